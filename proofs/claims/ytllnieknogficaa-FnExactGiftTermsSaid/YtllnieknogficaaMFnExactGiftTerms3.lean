/-
Part 3 of the proof of the law FnExactGiftTerms: what the Go functions that it reaches come to, each proved of the given program; no condition beside those that each theorem names.
-/
import Derived.Deep.Matrix
import Derived.ProofKit
import Derived.Lib.SmallJoins
import Derived.Test.YtllnieknogficaaMFnExactGiftTerms1
import Derived.Test.YtllnieknogficaaMFnExactGiftTerms2
namespace Go.Proofs.Ytllnieknogficaa.K
open Go.RowKit Go.Proofs.YtllnieknogficaaW.PrintWords Go.Proofs.YtllnieknogficaaW.PrintLast Go.Proofs.YtllnieknogficaaW.PrintMore
attribute [local go_sem] max2_int min2_int max_two min_two max_three min_three max_four min_four   -- for this text's walks alone
set_option linter.unusedVariables false
set_option linter.unusedSimpArgs false

/-! ### spec_GiftTerms: function 41 -/
mutual
def spec_GiftTerms.j0 : Nat → List Int → List Int → Bool → Int → Int → Int → Option (List Int × Bool)
  | 0, _, _, _, _, _, _ => none
  | k + 1, x0, x2, x32, x485000, x485001, x485002 => if x32 = true then (some (([] : List Int), false)) else (if 0 ≤ x485000 then (if x485000 < (x0.length : Int) then (if 0 ≤ x485001 then (if x485001 < (x0.length : Int) then ((spec_syOrders.f k (x2.length : Int)).bind fun t489 => (spec_GiftTerms.l0 k x0 x2 (rd x0 x485000) (rd x0 x485001) ([] : List Int) t489 (t489.length : Int) 0 x485000 x485001 x485002)) else (none)) else (none)) else (none)) else (none))
def spec_GiftTerms.l0 : Nat → List Int → List Int → Int → Int → List Int → List (List Int) → Int → Int → Int → Int → Int → Option (List Int × Bool)
  | 0, _, _, _, _, _, _, _, _, _, _, _ => none
  | k + 1, x0, x2, x8, x9, x10, x45, x46, x47, x485000, x485001, x485002 => if x47 < x46 then (if 0 ≤ x47 then (if x47 < (x45.length : Int) then (if 0 ≤ x485000 then (if x485000 < ((rd_L2 x45 x47).length : Int) then (if 0 ≤ (rd (rd_L2 x45 x47) x485000) then (if (rd (rd_L2 x45 x47) x485000) < (x2.length : Int) then (if 0 ≤ x485001 then (if x485001 < ((rd_L2 x45 x47).length : Int) then (if 0 ≤ (rd (rd_L2 x45 x47) x485001) then (if (rd (rd_L2 x45 x47) x485001) < (x2.length : Int) then ((spec_syPower.f k (wrap64 ((rd x2 (rd (rd_L2 x45 x47) x485000)) * (rd x2 (rd (rd_L2 x45 x47) x485001)))) x9).bind fun t497 => ((spec_syPower.f k (rd x2 (rd (rd_L2 x45 x47) x485000)) (wrap64 ((wrap64 (x8 - x9)) - 1))).bind fun t498 => ((spec_syPower.f k (rd x2 (rd (rd_L2 x45 x47) x485001)) (wrap64 ((wrap64 (x8 - x9)) - 1))).bind fun t499 => (spec_GiftTerms.l1 k x0 x2 x8 x9 x10 (wrap64 ((wrap64 (t497 * (wrap64 (t498 - t499)))) * (wrap64 ((rd x2 (rd (rd_L2 x45 x47) x485000)) - (rd x2 (rd (rd_L2 x45 x47) x485001)))))) x45 x46 x47 (rd_L2 x45 x47) ((rd_L2 x45 x47).length : Int) 0 x485000 x485001 x485002)))) else (none)) else (none)) else (none)) else (none)) else (none)) else (none)) else (none)) else (none)) else (none)) else (none)) else (some (x10, true))
def spec_GiftTerms.l1 : Nat → List Int → List Int → Int → Int → List Int → Int → List (List Int) → Int → Int → List Int → Int → Int → Int → Int → Int → Option (List Int × Bool)
  | 0, _, _, _, _, _, _, _, _, _, _, _, _, _, _, _ => none
  | k + 1, x0, x2, x8, x9, x10, x15, x45, x46, x47, x90, x91, x92, x485000, x485001, x485002 => if x92 < x91 then (if 0 ≤ x92 then (if x92 < (x90.length : Int) then (if x92 = x485000 then (spec_GiftTerms.l1 k x0 x2 x8 x9 x10 x15 x45 x46 x47 x90 x91 (wrap64 (x92 + 1)) x485000 x485001 x485002) else (if x92 = x485001 then (spec_GiftTerms.l1 k x0 x2 x8 x9 x10 x15 x45 x46 x47 x90 x91 (wrap64 (x92 + 1)) x485000 x485001 x485002) else (if 0 ≤ (rd x90 x92) then (if (rd x90 x92) < (x2.length : Int) then (if x92 < (x0.length : Int) then ((spec_syPower.f k (rd x2 (rd x90 x92)) (rd x0 x92)).bind fun t503 => (spec_GiftTerms.l1 k x0 x2 x8 x9 x10 (wrap64 (x15 * t503)) x45 x46 x47 x90 x91 (wrap64 (x92 + 1)) x485000 x485001 x485002)) else (none)) else (none)) else (none)))) else (none)) else (none)) else (if x10.length < 17592186044416 then (spec_GiftTerms.l0 k x0 x2 x8 x9 (x10 ++ [x15]) x45 x46 (wrap64 (x47 + 1)) x485000 x485001 x485002) else (none))
end
def spec_GiftTerms.f (k : Nat) (l0 : List Int) (a1_0 : Int) (a1_1 : Int) (a1_2 : Int) (l2 : List Int) : Option (List Int × Bool) := (spec_syGiven.f k l0 l2).bind fun t485 => (if t485 = true then ((spec_giKind.f l0 a1_0 a1_1 a1_2).bind fun t486 => (if t486 = true then (spec_GiftTerms.j0 k l0 l2 (a1_2 != 1) a1_0 a1_1 a1_2) else (spec_GiftTerms.j0 k l0 l2 true a1_0 a1_1 a1_2))) else (spec_GiftTerms.j0 k l0 l2 true a1_0 a1_1 a1_2))
theorem spec_GiftTerms.mono_l : ∀ k, (∀ y0 y1 y2 y3 y4 y5, LeO (spec_GiftTerms.j0 k y0 y1 y2 y3 y4 y5) (spec_GiftTerms.j0 (k + 1) y0 y1 y2 y3 y4 y5)) ∧ (∀ y0 y1 y2 y3 y4 y5 y6 y7 y8 y9 y10, LeO (spec_GiftTerms.l0 k y0 y1 y2 y3 y4 y5 y6 y7 y8 y9 y10) (spec_GiftTerms.l0 (k + 1) y0 y1 y2 y3 y4 y5 y6 y7 y8 y9 y10)) ∧ (∀ y0 y1 y2 y3 y4 y5 y6 y7 y8 y9 y10 y11 y12 y13 y14, LeO (spec_GiftTerms.l1 k y0 y1 y2 y3 y4 y5 y6 y7 y8 y9 y10 y11 y12 y13 y14) (spec_GiftTerms.l1 (k + 1) y0 y1 y2 y3 y4 y5 y6 y7 y8 y9 y10 y11 y12 y13 y14))
  | 0 => ⟨fun _ _ _ _ _ _ r h => by simp [spec_GiftTerms.j0] at h, fun _ _ _ _ _ _ _ _ _ _ _ r h => by simp [spec_GiftTerms.l0] at h, fun _ _ _ _ _ _ _ _ _ _ _ _ _ _ _ r h => by simp [spec_GiftTerms.l1] at h⟩
  | k + 1 => by
    obtain ⟨ih0, ih1, ih2⟩ := spec_GiftTerms.mono_l k
    refine ⟨?_, ?_, ?_⟩
    · intro y0 y1 y2 y3 y4 y5
      unfold spec_GiftTerms.j0
      repeat' first
      | (with_reducible exact ih0 _ _ _ _ _ _)
      | (with_reducible exact ih1 _ _ _ _ _ _ _ _ _ _ _)
      | (with_reducible exact ih2 _ _ _ _ _ _ _ _ _ _ _ _ _ _ _)
      | (with_reducible exact spec_syGiven.mono _ _ _)
      | (with_reducible exact spec_syOrders.mono _ _)
      | (with_reducible exact spec_syPower.mono _ _ _)
      | (with_reducible exact LeO.refl _)
      | (with_reducible exact LeO.none _)
      | (with_reducible refine LeO.ite ?_ ?_)
      | (with_reducible refine LeO.bind ?_ (fun _ => ?_))
      | exact ih0 _ _ _ _ _ _
      | exact ih1 _ _ _ _ _ _ _ _ _ _ _
      | exact ih2 _ _ _ _ _ _ _ _ _ _ _ _ _ _ _
      | exact spec_syGiven.mono _ _ _
      | exact spec_syOrders.mono _ _
      | exact spec_syPower.mono _ _ _
      | exact LeO.none _
      | refine LeO.ite ?_ ?_
      | refine LeO.bind ?_ (fun _ => ?_)
    · intro y0 y1 y2 y3 y4 y5 y6 y7 y8 y9 y10
      unfold spec_GiftTerms.l0
      repeat' first
      | (with_reducible exact ih0 _ _ _ _ _ _)
      | (with_reducible exact ih1 _ _ _ _ _ _ _ _ _ _ _)
      | (with_reducible exact ih2 _ _ _ _ _ _ _ _ _ _ _ _ _ _ _)
      | (with_reducible exact spec_syGiven.mono _ _ _)
      | (with_reducible exact spec_syOrders.mono _ _)
      | (with_reducible exact spec_syPower.mono _ _ _)
      | (with_reducible exact LeO.refl _)
      | (with_reducible exact LeO.none _)
      | (with_reducible refine LeO.ite ?_ ?_)
      | (with_reducible refine LeO.bind ?_ (fun _ => ?_))
      | exact ih0 _ _ _ _ _ _
      | exact ih1 _ _ _ _ _ _ _ _ _ _ _
      | exact ih2 _ _ _ _ _ _ _ _ _ _ _ _ _ _ _
      | exact spec_syGiven.mono _ _ _
      | exact spec_syOrders.mono _ _
      | exact spec_syPower.mono _ _ _
      | exact LeO.none _
      | refine LeO.ite ?_ ?_
      | refine LeO.bind ?_ (fun _ => ?_)
    · intro y0 y1 y2 y3 y4 y5 y6 y7 y8 y9 y10 y11 y12 y13 y14
      unfold spec_GiftTerms.l1
      repeat' first
      | (with_reducible exact ih0 _ _ _ _ _ _)
      | (with_reducible exact ih1 _ _ _ _ _ _ _ _ _ _ _)
      | (with_reducible exact ih2 _ _ _ _ _ _ _ _ _ _ _ _ _ _ _)
      | (with_reducible exact spec_syGiven.mono _ _ _)
      | (with_reducible exact spec_syOrders.mono _ _)
      | (with_reducible exact spec_syPower.mono _ _ _)
      | (with_reducible exact LeO.refl _)
      | (with_reducible exact LeO.none _)
      | (with_reducible refine LeO.ite ?_ ?_)
      | (with_reducible refine LeO.bind ?_ (fun _ => ?_))
      | exact ih0 _ _ _ _ _ _
      | exact ih1 _ _ _ _ _ _ _ _ _ _ _
      | exact ih2 _ _ _ _ _ _ _ _ _ _ _ _ _ _ _
      | exact spec_syGiven.mono _ _ _
      | exact spec_syOrders.mono _ _
      | exact spec_syPower.mono _ _ _
      | exact LeO.none _
      | refine LeO.ite ?_ ?_
      | refine LeO.bind ?_ (fun _ => ?_)
theorem spec_GiftTerms.mono : ∀ a0 a1 a2 a3 a4 k, LeO (spec_GiftTerms.f k a0 a1 a2 a3 a4) (spec_GiftTerms.f (k + 1) a0 a1 a2 a3 a4) := by
  intro a0 a1 a2 a3 a4 k
  obtain ⟨ih0, ih1, ih2⟩ := spec_GiftTerms.mono_l k
  unfold spec_GiftTerms.f
  repeat' first
      | (with_reducible exact ih0 _ _ _ _ _ _)
      | (with_reducible exact ih1 _ _ _ _ _ _ _ _ _ _ _)
      | (with_reducible exact ih2 _ _ _ _ _ _ _ _ _ _ _ _ _ _ _)
      | (with_reducible exact spec_syGiven.mono _ _ _)
      | (with_reducible exact spec_syOrders.mono _ _)
      | (with_reducible exact spec_syPower.mono _ _ _)
      | (with_reducible exact LeO.refl _)
      | (with_reducible exact LeO.none _)
      | (with_reducible refine LeO.ite ?_ ?_)
      | (with_reducible refine LeO.bind ?_ (fun _ => ?_))
      | exact ih0 _ _ _ _ _ _
      | exact ih1 _ _ _ _ _ _ _ _ _ _ _
      | exact ih2 _ _ _ _ _ _ _ _ _ _ _ _ _ _ _
      | exact spec_syGiven.mono _ _ _
      | exact spec_syOrders.mono _ _
      | exact spec_syPower.mono _ _ _
      | exact LeO.none _
      | refine LeO.ite ?_ ?_
      | refine LeO.bind ?_ (fun _ => ?_)
set_option maxHeartbeats 8000000 in
set_option maxRecDepth 100000 in
theorem spec_GiftTerms.calls (k : Nat) (A0 : Option Addr) (c0 : Nat) (l0 : List Int) (a1_0 : Int) (a1_1 : Int) (a1_2 : Int) (A2 : Option Addr) (c2 : Nat) (l2 : List Int) (r1 : List Int) (r2 : Bool) (w : World) (hr0 : Kd.C (Kd.int .i64) w A0 l0.length l0) (hc0 : l0.length ≤ c0) (hr2 : Kd.C (Kd.int .i64) w A2 l2.length l2) (hc2 : l2.length ≤ c2) (h : spec_GiftTerms.f k l0 a1_0 a1_1 a1_2 l2 = some (r1, r2)) :
    Calls Try.prog 41 #[.slice A0 l0.length c0, .agg #[.int .i64 a1_0, .int .i64 a1_1, .int .i64 a1_2], .slice A2 l2.length c2] w fun e w' => ∃ v0_ : Value, e = .returned (.tuple #[v0_, .bool r2]) ∧ Kd.R (Kd.int .i64) 3 w' w.heap.size (fun _ => True) v0_ r1 ∧ Below w.heap.size w w' := by
  have hu52 := Try.underlying52
  have HR0 := Aside0.mk hr0
  have HC0 := Aside0.mk hc0
  clear hr0 hc0
  have HR2 := Aside0.mk hr2
  have HC2 := Aside0.mk hc2
  clear hr2 hc2
  have HB := Aside0.mk (Below.refl w.heap.size w)
  have H : ((spec_syGiven.f k l0 l2).bind fun t485 => (if t485 = true then ((spec_giKind.f l0 a1_0 a1_1 a1_2).bind fun t486 => (if t486 = true then (spec_GiftTerms.j0 k l0 l2 (a1_2 != 1) a1_0 a1_1 a1_2) else (spec_GiftTerms.j0 k l0 l2 true a1_0 a1_1 a1_2))) else (spec_GiftTerms.j0 k l0 l2 true a1_0 a1_1 a1_2))) = some (r1, r2) := h
  clear h
  have HC4 := Aside0.mk H
  clear H
  go_enter Try.func41, Try.ntmps41
  go_upto_region 1 with (first | ((with_reducible refine gate_dst (N := 4) rfl ?_); refine box_event ?hg (N := 4) ?hd (cs := #[.int .i64 a1_0, .int .i64 a1_1, .int .i64 a1_2]) (t := 52) ?hr ?_; (case hd => rfl); (case hg => rfl); (case hr => first | (go_simp; done) | (go_simp; rfl)); intro gb484 hg w5 hbox hb; have n0_ := Aside0.mk (below_step (by repeat (first | (with_reducible first | exact HB.out | apply below_alloc | apply pw_below_drewN | apply below_drew1) | exact HB.out)) hb); have n1_ := Aside0.mk (hbox); have n2_ := Aside0.mk ((by rw [hg]; exact (below_size (by repeat (first | (with_reducible first | exact HB.out | apply below_alloc | apply pw_below_drewN | apply below_drew1) | exact HB.out))) : w.heap.size ≤ gb484)); have n3_ := Aside0.mk ((by rw [hg]; exact (below_size (by repeat (first | (with_reducible first | exact HB.out | apply below_alloc | apply pw_below_drewN | apply below_drew1) | exact HB.out))) : w.heap.size ≤ gb484)); clear HB; have HB := n0_; have BK484 := n1_; have GW484 := n2_; have GE484 := n3_; clear n0_ n1_ n2_ n3_; clear hb hbox hg))
  repeat (go_quiet (first | ((with_reducible refine gate_dst (N := 4) rfl ?_); refine box_event ?hg (N := 4) ?hd (cs := #[.int .i64 a1_0, .int .i64 a1_1, .int .i64 a1_2]) (t := 52) ?hr ?_; (case hd => rfl); (case hg => rfl); (case hr => first | (go_simp; done) | (go_simp; rfl)); intro gb484 hg w5 hbox hb; have n0_ := Aside0.mk (below_step (by repeat (first | (with_reducible first | exact HB.out | apply below_alloc | apply pw_below_drewN | apply below_drew1) | exact HB.out)) hb); have n1_ := Aside0.mk (hbox); have n2_ := Aside0.mk ((by rw [hg]; exact (below_size (by repeat (first | (with_reducible first | exact HB.out | apply below_alloc | apply pw_below_drewN | apply below_drew1) | exact HB.out))) : w.heap.size ≤ gb484)); have n3_ := Aside0.mk ((by rw [hg]; exact (below_size (by repeat (first | (with_reducible first | exact HB.out | apply below_alloc | apply pw_below_drewN | apply below_drew1) | exact HB.out))) : w.heap.size ≤ gb484)); clear HB; have HB := n0_; have BK484 := n1_; have GW484 := n2_; have GE484 := n3_; clear n0_ n1_ n2_ n3_; clear hb hbox hg)); go_upto_region 1 with (first | ((with_reducible refine gate_dst (N := 4) rfl ?_); refine box_event ?hg (N := 4) ?hd (cs := #[.int .i64 a1_0, .int .i64 a1_1, .int .i64 a1_2]) (t := 52) ?hr ?_; (case hd => rfl); (case hg => rfl); (case hr => first | (go_simp; done) | (go_simp; rfl)); intro gb484 hg w5 hbox hb; have n0_ := Aside0.mk (below_step (by repeat (first | (with_reducible first | exact HB.out | apply below_alloc | apply pw_below_drewN | apply below_drew1) | exact HB.out)) hb); have n1_ := Aside0.mk (hbox); have n2_ := Aside0.mk ((by rw [hg]; exact (below_size (by repeat (first | (with_reducible first | exact HB.out | apply below_alloc | apply pw_below_drewN | apply below_drew1) | exact HB.out))) : w.heap.size ≤ gb484)); have n3_ := Aside0.mk ((by rw [hg]; exact (below_size (by repeat (first | (with_reducible first | exact HB.out | apply below_alloc | apply pw_below_drewN | apply below_drew1) | exact HB.out))) : w.heap.size ≤ gb484)); clear HB; have HB := n0_; have BK484 := n1_; have GW484 := n2_; have GE484 := n3_; clear n0_ n1_ n2_ n3_; clear hb hbox hg)))
  (try simp only [Act.put, List.setIfInBounds_toArray, List.set_cons_zero, List.set_cons_succ])
  go_cut [32] (fun v32 wc => ∃ (kq : Nat) (x32_3 : Bool), v32 = .bool x32_3 ∧ Aside0 (spec_GiftTerms.j0 kq l0 l2 x32_3 a1_0 a1_1 a1_2 = some (r1, r2)) ∧ Aside0 (kq ≤ k) ∧ Aside0 (wc.heap[gb484]? = some (.cells #[.int .i64 a1_0, .int .i64 a1_1, .int .i64 a1_2] 52 (0, 0))) ∧ Aside0 (Below w.heap.size w wc))
  case first =>
    have H := HC4.out
    clear HC4
    replace H := Option.bind_eq_some_iff.mp H
    obtain ⟨t485, A60, H⟩ := H
    replace H : (if t485 = true then ((spec_giKind.f l0 a1_0 a1_1 a1_2).bind fun t486 => (if t486 = true then (spec_GiftTerms.j0 k l0 l2 (a1_2 != 1) a1_0 a1_1 a1_2) else (spec_GiftTerms.j0 k l0 l2 true a1_0 a1_1 a1_2))) else (spec_GiftTerms.j0 k l0 l2 true a1_0 a1_1 a1_2)) = some (r1, r2) := H
    have A6 := Aside0.mk A60
    clear A60
    by_cases c7 : t485 = true
    · subst c7
      have H1 : ((spec_giKind.f l0 a1_0 a1_1 a1_2).bind fun t486 => (if t486 = true then (spec_GiftTerms.j0 k l0 l2 (a1_2 != 1) a1_0 a1_1 a1_2) else (spec_GiftTerms.j0 k l0 l2 true a1_0 a1_1 a1_2))) = some (r1, r2) := by rw [if_pos rfl] at H; exact H
      clear H
      have H := H1
      clear H1
      replace H := Option.bind_eq_some_iff.mp H
      obtain ⟨t486, A80, H⟩ := H
      replace H : (if t486 = true then (spec_GiftTerms.j0 k l0 l2 (a1_2 != 1) a1_0 a1_1 a1_2) else (spec_GiftTerms.j0 k l0 l2 true a1_0 a1_1 a1_2)) = some (r1, r2) := H
      have A8 := Aside0.mk A80
      clear A80
      by_cases c9 : t486 = true
      · subst c9
        have H1 : (spec_GiftTerms.j0 k l0 l2 (a1_2 != 1) a1_0 a1_1 a1_2) = some (r1, r2) := by rw [if_pos rfl] at H; exact H
        clear H
        have H := H1
        clear H1
        have H' := Aside0.mk H
        clear H
        go_wp2_with (first | (go_at_call 128; (with_reducible refine (spec_syGiven.calls k _ _ l0 _ _ l2 true _ ?side1 ?side2 ?side3 ?side4 A6.out).mono ?_); (case side1 => repeat (first | exact (Kd.C_below HR0.out HB.out) | (with_reducible refine Kd.C_alloc ?_ _) | (with_reducible refine Kd.C_drewN ?_ _) | (with_reducible refine Kd.C_drew ?_))); (case side2 => exact HC0.out); (case side3 => repeat (first | exact (Kd.C_below HR2.out HB.out) | (with_reducible refine Kd.C_alloc ?_ _) | (with_reducible refine Kd.C_drewN ?_ _) | (with_reducible refine Kd.C_drew ?_))); (case side4 => exact HC2.out); rintro e w' ⟨rfl, ⟨nd, rfl⟩⟩; (try first | exact ⟨rfl, _, World.drewN_drewN _ _ _⟩ | exact ⟨rfl, _, Eq.trans (World.drewN_drewN _ _ _) (congrArg (World.drewN _) (Nat.add_assoc _ _ _))⟩); have hcz10_0 : w5.cell? ⟨gb484, 0, none⟩ = some (.int .i64 a1_0) := (blk_cell BK484.out 0).trans rfl; have hcz10_1 : w5.cell? ⟨gb484, 1, none⟩ = some (.int .i64 a1_1) := (blk_cell BK484.out 1).trans rfl; have hcz10_2 : w5.cell? ⟨gb484, 2, none⟩ = some (.int .i64 a1_2) := (blk_cell BK484.out 2).trans rfl; have hfz10_0 := blk_frozen BK484.out 0; have hfz10_1 := blk_frozen BK484.out 1; have hfz10_2 := blk_frozen BK484.out 2) | (go_at_call 129; (with_reducible refine (spec_giKind.calls _ _ l0 a1_0 a1_1 a1_2 true _ ?side1 ?side2 A8.out).mono ?_); (case side1 => repeat (first | exact (Kd.C_below HR0.out (by repeat (first | (with_reducible first | exact HB.out | apply below_alloc | apply pw_below_drewN | apply below_drew1 | refine below_set ?_ GE484.out) | exact HB.out))) | (with_reducible refine Kd.C_alloc ?_ _) | (with_reducible refine Kd.C_drewN ?_ _) | (with_reducible refine Kd.C_drew ?_))); (case side2 => exact HC0.out); rintro e w11 ⟨rfl, hb⟩; have n0_ := Aside0.mk (blk_below (g := gb484) (o := .cells #[.int .i64 a1_0, .int .i64 a1_1, .int .i64 a1_2] 52 (0, 0)) (by (with_reducible repeat (first | refine blk_drewN ?_ _ | refine blk_drew ?_ | refine blk_alloc ?_ _)); exact BK484.out) hb); have n1_ := Aside0.mk (below_step (by repeat (first | (with_reducible first | exact HB.out | apply below_alloc | apply pw_below_drewN | apply below_drew1 | refine below_set ?_ GE484.out) | exact HB.out)) hb); clear BK484; clear HB; have BK484 := n0_; have HB := n1_; clear n0_ n1_; (try clear hb); (try clear hb2); (try clear hk); (try clear hi); have hcz12_0 : w11.cell? ⟨gb484, 0, none⟩ = some (.int .i64 a1_0) := (blk_cell BK484.out 0).trans rfl; have hcz12_1 : w11.cell? ⟨gb484, 1, none⟩ = some (.int .i64 a1_1) := (blk_cell BK484.out 1).trans rfl; have hcz12_2 : w11.cell? ⟨gb484, 2, none⟩ = some (.int .i64 a1_2) := (blk_cell BK484.out 2).trans rfl; have hfz12_0 := blk_frozen BK484.out 0; have hfz12_1 := blk_frozen BK484.out 1; have hfz12_2 := blk_frozen BK484.out 2))
        repeat (go_quiet (first | (go_at_call 128; (with_reducible refine (spec_syGiven.calls k _ _ l0 _ _ l2 true _ ?side1 ?side2 ?side3 ?side4 A6.out).mono ?_); (case side1 => repeat (first | exact (Kd.C_below HR0.out HB.out) | (with_reducible refine Kd.C_alloc ?_ _) | (with_reducible refine Kd.C_drewN ?_ _) | (with_reducible refine Kd.C_drew ?_))); (case side2 => exact HC0.out); (case side3 => repeat (first | exact (Kd.C_below HR2.out HB.out) | (with_reducible refine Kd.C_alloc ?_ _) | (with_reducible refine Kd.C_drewN ?_ _) | (with_reducible refine Kd.C_drew ?_))); (case side4 => exact HC2.out); rintro e w' ⟨rfl, ⟨nd, rfl⟩⟩; (try first | exact ⟨rfl, _, World.drewN_drewN _ _ _⟩ | exact ⟨rfl, _, Eq.trans (World.drewN_drewN _ _ _) (congrArg (World.drewN _) (Nat.add_assoc _ _ _))⟩); have hcz10_0 : w5.cell? ⟨gb484, 0, none⟩ = some (.int .i64 a1_0) := (blk_cell BK484.out 0).trans rfl; have hcz10_1 : w5.cell? ⟨gb484, 1, none⟩ = some (.int .i64 a1_1) := (blk_cell BK484.out 1).trans rfl; have hcz10_2 : w5.cell? ⟨gb484, 2, none⟩ = some (.int .i64 a1_2) := (blk_cell BK484.out 2).trans rfl; have hfz10_0 := blk_frozen BK484.out 0; have hfz10_1 := blk_frozen BK484.out 1; have hfz10_2 := blk_frozen BK484.out 2) | (go_at_call 129; (with_reducible refine (spec_giKind.calls _ _ l0 a1_0 a1_1 a1_2 true _ ?side1 ?side2 A8.out).mono ?_); (case side1 => repeat (first | exact (Kd.C_below HR0.out (by repeat (first | (with_reducible first | exact HB.out | apply below_alloc | apply pw_below_drewN | apply below_drew1 | refine below_set ?_ GE484.out) | exact HB.out))) | (with_reducible refine Kd.C_alloc ?_ _) | (with_reducible refine Kd.C_drewN ?_ _) | (with_reducible refine Kd.C_drew ?_))); (case side2 => exact HC0.out); rintro e w11 ⟨rfl, hb⟩; have n0_ := Aside0.mk (blk_below (g := gb484) (o := .cells #[.int .i64 a1_0, .int .i64 a1_1, .int .i64 a1_2] 52 (0, 0)) (by (with_reducible repeat (first | refine blk_drewN ?_ _ | refine blk_drew ?_ | refine blk_alloc ?_ _)); exact BK484.out) hb); have n1_ := Aside0.mk (below_step (by repeat (first | (with_reducible first | exact HB.out | apply below_alloc | apply pw_below_drewN | apply below_drew1 | refine below_set ?_ GE484.out) | exact HB.out)) hb); clear BK484; clear HB; have BK484 := n0_; have HB := n1_; clear n0_ n1_; (try clear hb); (try clear hb2); (try clear hk); (try clear hi); have hcz12_0 : w11.cell? ⟨gb484, 0, none⟩ = some (.int .i64 a1_0) := (blk_cell BK484.out 0).trans rfl; have hcz12_1 : w11.cell? ⟨gb484, 1, none⟩ = some (.int .i64 a1_1) := (blk_cell BK484.out 1).trans rfl; have hcz12_2 : w11.cell? ⟨gb484, 2, none⟩ = some (.int .i64 a1_2) := (blk_cell BK484.out 2).trans rfl; have hfz12_0 := blk_frozen BK484.out 0; have hfz12_1 := blk_frozen BK484.out 1; have hfz12_2 := blk_frozen BK484.out 2)); try go_wp2_with (first | (go_at_call 128; (with_reducible refine (spec_syGiven.calls k _ _ l0 _ _ l2 true _ ?side1 ?side2 ?side3 ?side4 A6.out).mono ?_); (case side1 => repeat (first | exact (Kd.C_below HR0.out HB.out) | (with_reducible refine Kd.C_alloc ?_ _) | (with_reducible refine Kd.C_drewN ?_ _) | (with_reducible refine Kd.C_drew ?_))); (case side2 => exact HC0.out); (case side3 => repeat (first | exact (Kd.C_below HR2.out HB.out) | (with_reducible refine Kd.C_alloc ?_ _) | (with_reducible refine Kd.C_drewN ?_ _) | (with_reducible refine Kd.C_drew ?_))); (case side4 => exact HC2.out); rintro e w' ⟨rfl, ⟨nd, rfl⟩⟩; (try first | exact ⟨rfl, _, World.drewN_drewN _ _ _⟩ | exact ⟨rfl, _, Eq.trans (World.drewN_drewN _ _ _) (congrArg (World.drewN _) (Nat.add_assoc _ _ _))⟩); have hcz10_0 : w5.cell? ⟨gb484, 0, none⟩ = some (.int .i64 a1_0) := (blk_cell BK484.out 0).trans rfl; have hcz10_1 : w5.cell? ⟨gb484, 1, none⟩ = some (.int .i64 a1_1) := (blk_cell BK484.out 1).trans rfl; have hcz10_2 : w5.cell? ⟨gb484, 2, none⟩ = some (.int .i64 a1_2) := (blk_cell BK484.out 2).trans rfl; have hfz10_0 := blk_frozen BK484.out 0; have hfz10_1 := blk_frozen BK484.out 1; have hfz10_2 := blk_frozen BK484.out 2) | (go_at_call 129; (with_reducible refine (spec_giKind.calls _ _ l0 a1_0 a1_1 a1_2 true _ ?side1 ?side2 A8.out).mono ?_); (case side1 => repeat (first | exact (Kd.C_below HR0.out (by repeat (first | (with_reducible first | exact HB.out | apply below_alloc | apply pw_below_drewN | apply below_drew1 | refine below_set ?_ GE484.out) | exact HB.out))) | (with_reducible refine Kd.C_alloc ?_ _) | (with_reducible refine Kd.C_drewN ?_ _) | (with_reducible refine Kd.C_drew ?_))); (case side2 => exact HC0.out); rintro e w11 ⟨rfl, hb⟩; have n0_ := Aside0.mk (blk_below (g := gb484) (o := .cells #[.int .i64 a1_0, .int .i64 a1_1, .int .i64 a1_2] 52 (0, 0)) (by (with_reducible repeat (first | refine blk_drewN ?_ _ | refine blk_drew ?_ | refine blk_alloc ?_ _)); exact BK484.out) hb); have n1_ := Aside0.mk (below_step (by repeat (first | (with_reducible first | exact HB.out | apply below_alloc | apply pw_below_drewN | apply below_drew1 | refine below_set ?_ GE484.out) | exact HB.out)) hb); clear BK484; clear HB; have BK484 := n0_; have HB := n1_; clear n0_ n1_; (try clear hb); (try clear hb2); (try clear hk); (try clear hi); have hcz12_0 : w11.cell? ⟨gb484, 0, none⟩ = some (.int .i64 a1_0) := (blk_cell BK484.out 0).trans rfl; have hcz12_1 : w11.cell? ⟨gb484, 1, none⟩ = some (.int .i64 a1_1) := (blk_cell BK484.out 1).trans rfl; have hcz12_2 : w11.cell? ⟨gb484, 2, none⟩ = some (.int .i64 a1_2) := (blk_cell BK484.out 2).trans rfl; have hfz12_0 := blk_frozen BK484.out 0; have hfz12_1 := blk_frozen BK484.out 1; have hfz12_2 := blk_frozen BK484.out 2)))
        go_meet
        case rel => exact ⟨_, ((a1_2 != 1)), (by first | rfl | (simp; done) | (simp [*]; done)), H', ⟨by first | omega | exact Nat.le_refl _⟩, ⟨by (with_reducible repeat (first | refine blk_drewN ?_ _ | refine blk_drew ?_ | refine blk_alloc ?_ _)); exact BK484.out⟩, ⟨by repeat (first | (with_reducible first | exact HB.out | apply below_alloc | apply pw_below_drewN | apply below_drew1 | refine below_set ?_ GE484.out) | exact HB.out)⟩⟩
      · replace c9 := Bool.eq_false_iff.mpr c9
        subst c9
        have H1 : (spec_GiftTerms.j0 k l0 l2 true a1_0 a1_1 a1_2) = some (r1, r2) := by rw [if_neg (show ¬ (false = true) by decide)] at H; exact H
        clear H
        have H := H1
        clear H1
        have H' := Aside0.mk H
        clear H
        go_wp2_with (first | (go_at_call 128; (with_reducible refine (spec_syGiven.calls k _ _ l0 _ _ l2 true _ ?side1 ?side2 ?side3 ?side4 A6.out).mono ?_); (case side1 => repeat (first | exact (Kd.C_below HR0.out HB.out) | (with_reducible refine Kd.C_alloc ?_ _) | (with_reducible refine Kd.C_drewN ?_ _) | (with_reducible refine Kd.C_drew ?_))); (case side2 => exact HC0.out); (case side3 => repeat (first | exact (Kd.C_below HR2.out HB.out) | (with_reducible refine Kd.C_alloc ?_ _) | (with_reducible refine Kd.C_drewN ?_ _) | (with_reducible refine Kd.C_drew ?_))); (case side4 => exact HC2.out); rintro e w' ⟨rfl, ⟨nd, rfl⟩⟩; (try first | exact ⟨rfl, _, World.drewN_drewN _ _ _⟩ | exact ⟨rfl, _, Eq.trans (World.drewN_drewN _ _ _) (congrArg (World.drewN _) (Nat.add_assoc _ _ _))⟩); have hcz13_0 : w5.cell? ⟨gb484, 0, none⟩ = some (.int .i64 a1_0) := (blk_cell BK484.out 0).trans rfl; have hcz13_1 : w5.cell? ⟨gb484, 1, none⟩ = some (.int .i64 a1_1) := (blk_cell BK484.out 1).trans rfl; have hcz13_2 : w5.cell? ⟨gb484, 2, none⟩ = some (.int .i64 a1_2) := (blk_cell BK484.out 2).trans rfl; have hfz13_0 := blk_frozen BK484.out 0; have hfz13_1 := blk_frozen BK484.out 1; have hfz13_2 := blk_frozen BK484.out 2) | (go_at_call 129; (with_reducible refine (spec_giKind.calls _ _ l0 a1_0 a1_1 a1_2 false _ ?side1 ?side2 A8.out).mono ?_); (case side1 => repeat (first | exact (Kd.C_below HR0.out (by repeat (first | (with_reducible first | exact HB.out | apply below_alloc | apply pw_below_drewN | apply below_drew1 | refine below_set ?_ GE484.out) | exact HB.out))) | (with_reducible refine Kd.C_alloc ?_ _) | (with_reducible refine Kd.C_drewN ?_ _) | (with_reducible refine Kd.C_drew ?_))); (case side2 => exact HC0.out); rintro e w14 ⟨rfl, hb⟩; have n0_ := Aside0.mk (blk_below (g := gb484) (o := .cells #[.int .i64 a1_0, .int .i64 a1_1, .int .i64 a1_2] 52 (0, 0)) (by (with_reducible repeat (first | refine blk_drewN ?_ _ | refine blk_drew ?_ | refine blk_alloc ?_ _)); exact BK484.out) hb); have n1_ := Aside0.mk (below_step (by repeat (first | (with_reducible first | exact HB.out | apply below_alloc | apply pw_below_drewN | apply below_drew1 | refine below_set ?_ GE484.out) | exact HB.out)) hb); clear BK484; clear HB; have BK484 := n0_; have HB := n1_; clear n0_ n1_; (try clear hb); (try clear hb2); (try clear hk); (try clear hi)))
        repeat (go_quiet (first | (go_at_call 128; (with_reducible refine (spec_syGiven.calls k _ _ l0 _ _ l2 true _ ?side1 ?side2 ?side3 ?side4 A6.out).mono ?_); (case side1 => repeat (first | exact (Kd.C_below HR0.out HB.out) | (with_reducible refine Kd.C_alloc ?_ _) | (with_reducible refine Kd.C_drewN ?_ _) | (with_reducible refine Kd.C_drew ?_))); (case side2 => exact HC0.out); (case side3 => repeat (first | exact (Kd.C_below HR2.out HB.out) | (with_reducible refine Kd.C_alloc ?_ _) | (with_reducible refine Kd.C_drewN ?_ _) | (with_reducible refine Kd.C_drew ?_))); (case side4 => exact HC2.out); rintro e w' ⟨rfl, ⟨nd, rfl⟩⟩; (try first | exact ⟨rfl, _, World.drewN_drewN _ _ _⟩ | exact ⟨rfl, _, Eq.trans (World.drewN_drewN _ _ _) (congrArg (World.drewN _) (Nat.add_assoc _ _ _))⟩); have hcz13_0 : w5.cell? ⟨gb484, 0, none⟩ = some (.int .i64 a1_0) := (blk_cell BK484.out 0).trans rfl; have hcz13_1 : w5.cell? ⟨gb484, 1, none⟩ = some (.int .i64 a1_1) := (blk_cell BK484.out 1).trans rfl; have hcz13_2 : w5.cell? ⟨gb484, 2, none⟩ = some (.int .i64 a1_2) := (blk_cell BK484.out 2).trans rfl; have hfz13_0 := blk_frozen BK484.out 0; have hfz13_1 := blk_frozen BK484.out 1; have hfz13_2 := blk_frozen BK484.out 2) | (go_at_call 129; (with_reducible refine (spec_giKind.calls _ _ l0 a1_0 a1_1 a1_2 false _ ?side1 ?side2 A8.out).mono ?_); (case side1 => repeat (first | exact (Kd.C_below HR0.out (by repeat (first | (with_reducible first | exact HB.out | apply below_alloc | apply pw_below_drewN | apply below_drew1 | refine below_set ?_ GE484.out) | exact HB.out))) | (with_reducible refine Kd.C_alloc ?_ _) | (with_reducible refine Kd.C_drewN ?_ _) | (with_reducible refine Kd.C_drew ?_))); (case side2 => exact HC0.out); rintro e w14 ⟨rfl, hb⟩; have n0_ := Aside0.mk (blk_below (g := gb484) (o := .cells #[.int .i64 a1_0, .int .i64 a1_1, .int .i64 a1_2] 52 (0, 0)) (by (with_reducible repeat (first | refine blk_drewN ?_ _ | refine blk_drew ?_ | refine blk_alloc ?_ _)); exact BK484.out) hb); have n1_ := Aside0.mk (below_step (by repeat (first | (with_reducible first | exact HB.out | apply below_alloc | apply pw_below_drewN | apply below_drew1 | refine below_set ?_ GE484.out) | exact HB.out)) hb); clear BK484; clear HB; have BK484 := n0_; have HB := n1_; clear n0_ n1_; (try clear hb); (try clear hb2); (try clear hk); (try clear hi))); try go_wp2_with (first | (go_at_call 128; (with_reducible refine (spec_syGiven.calls k _ _ l0 _ _ l2 true _ ?side1 ?side2 ?side3 ?side4 A6.out).mono ?_); (case side1 => repeat (first | exact (Kd.C_below HR0.out HB.out) | (with_reducible refine Kd.C_alloc ?_ _) | (with_reducible refine Kd.C_drewN ?_ _) | (with_reducible refine Kd.C_drew ?_))); (case side2 => exact HC0.out); (case side3 => repeat (first | exact (Kd.C_below HR2.out HB.out) | (with_reducible refine Kd.C_alloc ?_ _) | (with_reducible refine Kd.C_drewN ?_ _) | (with_reducible refine Kd.C_drew ?_))); (case side4 => exact HC2.out); rintro e w' ⟨rfl, ⟨nd, rfl⟩⟩; (try first | exact ⟨rfl, _, World.drewN_drewN _ _ _⟩ | exact ⟨rfl, _, Eq.trans (World.drewN_drewN _ _ _) (congrArg (World.drewN _) (Nat.add_assoc _ _ _))⟩); have hcz13_0 : w5.cell? ⟨gb484, 0, none⟩ = some (.int .i64 a1_0) := (blk_cell BK484.out 0).trans rfl; have hcz13_1 : w5.cell? ⟨gb484, 1, none⟩ = some (.int .i64 a1_1) := (blk_cell BK484.out 1).trans rfl; have hcz13_2 : w5.cell? ⟨gb484, 2, none⟩ = some (.int .i64 a1_2) := (blk_cell BK484.out 2).trans rfl; have hfz13_0 := blk_frozen BK484.out 0; have hfz13_1 := blk_frozen BK484.out 1; have hfz13_2 := blk_frozen BK484.out 2) | (go_at_call 129; (with_reducible refine (spec_giKind.calls _ _ l0 a1_0 a1_1 a1_2 false _ ?side1 ?side2 A8.out).mono ?_); (case side1 => repeat (first | exact (Kd.C_below HR0.out (by repeat (first | (with_reducible first | exact HB.out | apply below_alloc | apply pw_below_drewN | apply below_drew1 | refine below_set ?_ GE484.out) | exact HB.out))) | (with_reducible refine Kd.C_alloc ?_ _) | (with_reducible refine Kd.C_drewN ?_ _) | (with_reducible refine Kd.C_drew ?_))); (case side2 => exact HC0.out); rintro e w14 ⟨rfl, hb⟩; have n0_ := Aside0.mk (blk_below (g := gb484) (o := .cells #[.int .i64 a1_0, .int .i64 a1_1, .int .i64 a1_2] 52 (0, 0)) (by (with_reducible repeat (first | refine blk_drewN ?_ _ | refine blk_drew ?_ | refine blk_alloc ?_ _)); exact BK484.out) hb); have n1_ := Aside0.mk (below_step (by repeat (first | (with_reducible first | exact HB.out | apply below_alloc | apply pw_below_drewN | apply below_drew1 | refine below_set ?_ GE484.out) | exact HB.out)) hb); clear BK484; clear HB; have BK484 := n0_; have HB := n1_; clear n0_ n1_; (try clear hb); (try clear hb2); (try clear hk); (try clear hi))))
        go_meet
        case rel => exact ⟨_, (true), (by first | rfl | (simp; done) | (simp [*]; done)), H', ⟨by first | omega | exact Nat.le_refl _⟩, ⟨by (with_reducible repeat (first | refine blk_drewN ?_ _ | refine blk_drew ?_ | refine blk_alloc ?_ _)); exact BK484.out⟩, ⟨by repeat (first | (with_reducible first | exact HB.out | apply below_alloc | apply pw_below_drewN | apply below_drew1 | refine below_set ?_ GE484.out) | exact HB.out)⟩⟩
    · replace c7 := Bool.eq_false_iff.mpr c7
      subst c7
      have H1 : (spec_GiftTerms.j0 k l0 l2 true a1_0 a1_1 a1_2) = some (r1, r2) := by rw [if_neg (show ¬ (false = true) by decide)] at H; exact H
      clear H
      have H := H1
      clear H1
      have H' := Aside0.mk H
      clear H
      go_wp2_with (first | (go_at_call 128; (with_reducible refine (spec_syGiven.calls k _ _ l0 _ _ l2 false _ ?side1 ?side2 ?side3 ?side4 A6.out).mono ?_); (case side1 => repeat (first | exact (Kd.C_below HR0.out HB.out) | (with_reducible refine Kd.C_alloc ?_ _) | (with_reducible refine Kd.C_drewN ?_ _) | (with_reducible refine Kd.C_drew ?_))); (case side2 => exact HC0.out); (case side3 => repeat (first | exact (Kd.C_below HR2.out HB.out) | (with_reducible refine Kd.C_alloc ?_ _) | (with_reducible refine Kd.C_drewN ?_ _) | (with_reducible refine Kd.C_drew ?_))); (case side4 => exact HC2.out); rintro e w' ⟨rfl, ⟨nd, rfl⟩⟩; (try first | exact ⟨rfl, _, World.drewN_drewN _ _ _⟩ | exact ⟨rfl, _, Eq.trans (World.drewN_drewN _ _ _) (congrArg (World.drewN _) (Nat.add_assoc _ _ _))⟩)))
      repeat (go_quiet (first | (go_at_call 128; (with_reducible refine (spec_syGiven.calls k _ _ l0 _ _ l2 false _ ?side1 ?side2 ?side3 ?side4 A6.out).mono ?_); (case side1 => repeat (first | exact (Kd.C_below HR0.out HB.out) | (with_reducible refine Kd.C_alloc ?_ _) | (with_reducible refine Kd.C_drewN ?_ _) | (with_reducible refine Kd.C_drew ?_))); (case side2 => exact HC0.out); (case side3 => repeat (first | exact (Kd.C_below HR2.out HB.out) | (with_reducible refine Kd.C_alloc ?_ _) | (with_reducible refine Kd.C_drewN ?_ _) | (with_reducible refine Kd.C_drew ?_))); (case side4 => exact HC2.out); rintro e w' ⟨rfl, ⟨nd, rfl⟩⟩; (try first | exact ⟨rfl, _, World.drewN_drewN _ _ _⟩ | exact ⟨rfl, _, Eq.trans (World.drewN_drewN _ _ _) (congrArg (World.drewN _) (Nat.add_assoc _ _ _))⟩))); try go_wp2_with (first | (go_at_call 128; (with_reducible refine (spec_syGiven.calls k _ _ l0 _ _ l2 false _ ?side1 ?side2 ?side3 ?side4 A6.out).mono ?_); (case side1 => repeat (first | exact (Kd.C_below HR0.out HB.out) | (with_reducible refine Kd.C_alloc ?_ _) | (with_reducible refine Kd.C_drewN ?_ _) | (with_reducible refine Kd.C_drew ?_))); (case side2 => exact HC0.out); (case side3 => repeat (first | exact (Kd.C_below HR2.out HB.out) | (with_reducible refine Kd.C_alloc ?_ _) | (with_reducible refine Kd.C_drewN ?_ _) | (with_reducible refine Kd.C_drew ?_))); (case side4 => exact HC2.out); rintro e w' ⟨rfl, ⟨nd, rfl⟩⟩; (try first | exact ⟨rfl, _, World.drewN_drewN _ _ _⟩ | exact ⟨rfl, _, Eq.trans (World.drewN_drewN _ _ _) (congrArg (World.drewN _) (Nat.add_assoc _ _ _))⟩))))
      go_meet
      case rel => exact ⟨_, (true), (by first | rfl | (simp; done) | (simp [*]; done)), H', ⟨by first | omega | exact Nat.le_refl _⟩, ⟨by (with_reducible repeat (first | refine blk_drewN ?_ _ | refine blk_drew ?_ | refine blk_alloc ?_ _)); exact BK484.out⟩, ⟨by repeat (first | (with_reducible first | exact HB.out | apply below_alloc | apply pw_below_drewN | apply below_drew1 | refine below_set ?_ GE484.out) | exact HB.out)⟩⟩
  case rest =>
    clear HC4
    try clear c2
    try clear p2
    try clear c4
    try clear c7
    try clear c9
    try clear hcz10_0
    try clear hcz10_1
    try clear hcz10_2
    try clear hcz12_0
    try clear hcz12_1
    try clear hcz12_2
    try clear hcz13_0
    try clear hcz13_1
    try clear hcz13_2
    try clear hfz10_0
    try clear hfz10_1
    try clear hfz10_2
    try clear hfz12_0
    try clear hfz12_1
    try clear hfz12_2
    try clear hfz13_0
    try clear hfz13_1
    try clear hfz13_2
    obtain ⟨kq, x32_3, rfl, HA, HJ3, BK484, HB⟩ := hcut
    cases kq with
    | zero => exact absurd HA.out (by simp [spec_GiftTerms.j0])
    | succ kj3 =>
      have H := HA.out
      clear HA
      simp only [spec_GiftTerms.j0] at H
      by_cases c15 : x32_3 = true
      · subst c15
        have H1 : (some (([] : List Int), false)) = some (r1, r2) := by rw [if_pos rfl] at H; exact H
        clear H
        have H := H1
        clear H1
        simp only [Option.some.injEq, Prod.mk.injEq] at H
        obtain ⟨rfl, rfl⟩ := H
        go_wp2
        repeat (go_quiet (fail); try go_wp2)
        go_ret2
        exact ⟨_, by first | rfl | (simp [errW_none, errW_some] <;> rfl) | (simp [*, errW_none, errW_some] <;> rfl), by first | exact Kd.R_nil _ _ _ _ _ | exact Kd.N_nil _ _ _ _ _ | exact Kd.V_nil _ _ _ _ _ | exact Kd.Q_nil _ _ _ _ _ | exact Kd.S_nil _ _ _ _ _, by repeat (first | (with_reducible first | exact HB.out | apply below_alloc | apply pw_below_drewN | apply below_drew1 | refine below_set ?_ GE484.out) | exact HB.out)⟩
      · replace c15 := Bool.eq_false_iff.mpr c15
        subst c15
        have H1 : (if 0 ≤ a1_0 then (if a1_0 < (l0.length : Int) then (if 0 ≤ a1_1 then (if a1_1 < (l0.length : Int) then ((spec_syOrders.f kj3 (l2.length : Int)).bind fun t489 => (spec_GiftTerms.l0 kj3 l0 l2 (rd l0 a1_0) (rd l0 a1_1) ([] : List Int) t489 (t489.length : Int) 0 a1_0 a1_1 a1_2)) else (none)) else (none)) else (none)) else (none)) = some (r1, r2) := by rw [if_neg (show ¬ (false = true) by decide)] at H; exact H
        clear H
        have H := H1
        clear H1
        by_cases c16 : 0 ≤ a1_0
        · rw [if_pos c16] at H
          have c16b0 : decide (0 ≤ a1_0) = true := decide_eq_true c16
          clear c16
          by_cases c17 : a1_0 < (l0.length : Int)
          · rw [if_pos c17] at H
            have c17b0 : decide (a1_0 < (l0.length : Int)) = true := decide_eq_true c17
            clear c17
            by_cases c18 : 0 ≤ a1_1
            · rw [if_pos c18] at H
              have c18b0 : decide (0 ≤ a1_1) = true := decide_eq_true c18
              clear c18
              by_cases c19 : a1_1 < (l0.length : Int)
              · rw [if_pos c19] at H
                have c19b0 : decide (a1_1 < (l0.length : Int)) = true := decide_eq_true c19
                clear c19
                replace H := Option.bind_eq_some_iff.mp H
                obtain ⟨t489, A200, H⟩ := H
                replace H : (spec_GiftTerms.l0 kj3 l0 l2 (rd l0 a1_0) (rd l0 a1_1) ([] : List Int) t489 (t489.length : Int) 0 a1_0 a1_1 a1_2) = some (r1, r2) := H
                have A20 := Aside0.mk A200
                clear A200
                have H' := Aside0.mk H
                clear H
                have hcz21_0 : wc.cell? ⟨gb484, 0, none⟩ = some (.int .i64 a1_0) := (blk_cell BK484.out 0).trans rfl
                have hcz21_1 : wc.cell? ⟨gb484, 1, none⟩ = some (.int .i64 a1_1) := (blk_cell BK484.out 1).trans rfl
                have hcz21_2 : wc.cell? ⟨gb484, 2, none⟩ = some (.int .i64 a1_2) := (blk_cell BK484.out 2).trans rfl
                have hfz21_0 := blk_frozen BK484.out 0
                have hfz21_1 := blk_frozen BK484.out 1
                have hfz21_2 := blk_frozen BK484.out 2
                have p487 : 0 ≤ (a1_0 : Int) := of_decide_eq_true (by first | (with_reducible assumption) | assumption)
                have q487 : a1_0 < (l0.length : Int) := of_decide_eq_true (by first | (with_reducible assumption) | assumption)
                obtain ⟨ad487, e487, hx487_0⟩ := Kd.at_int HR0.out a1_0 p487 q487
                cases e487
                (first | (replace hx487_0 := (HB.out.cell (World.block_lt_of_cell? w _ hx487_0)).trans hx487_0) | skip)
                replace p487 := eq_true p487
                replace q487 := eq_true q487
                have p488 : 0 ≤ (a1_1 : Int) := of_decide_eq_true (by first | (with_reducible assumption) | assumption)
                have q488 : a1_1 < (l0.length : Int) := of_decide_eq_true (by first | (with_reducible assumption) | assumption)
                obtain ⟨ad488, e488, hx488_0⟩ := Kd.at_int HR0.out a1_1 p488 q488
                obtain rfl : ad487 = ad488 := (by injection e488)
                (first | (replace hx488_0 := (HB.out.cell (World.block_lt_of_cell? w _ hx488_0)).trans hx488_0) | skip)
                replace p488 := eq_true p488
                replace q488 := eq_true q488
                go_wp2_with (first | (go_at_call 130; (with_reducible refine (spec_syOrders.calls kj3 (l2.length : Int) t489 _ A20.out).mono ?_); rintro e w22 ⟨v490, rfl, ho0, hb⟩; have n0_ := Aside0.mk (Kd.N_lower (Kd.N_mono (ok' := fun k_ => k_ ≠ gb484) ho0 (fun k_ hk_ => (Kd.freshB (g := gb484) (o := .cells #[.int .i64 a1_0, .int .i64 a1_1, .int .i64 a1_2] 52 (0, 0)) (by (with_reducible repeat (first | refine blk_drewN ?_ _ | refine blk_drew ?_ | refine blk_alloc ?_ _)); exact BK484.out) k_ hk_))) (below_size (by repeat (first | (with_reducible first | exact HB.out | apply below_alloc | apply pw_below_drewN | apply below_drew1 | refine below_set ?_ GE484.out) | exact HB.out)))); have n1_ := Aside0.mk (blk_below (g := gb484) (o := .cells #[.int .i64 a1_0, .int .i64 a1_1, .int .i64 a1_2] 52 (0, 0)) (by (with_reducible repeat (first | refine blk_drewN ?_ _ | refine blk_drew ?_ | refine blk_alloc ?_ _)); exact BK484.out) hb); have n2_ := Aside0.mk (below_step (by repeat (first | (with_reducible first | exact HB.out | apply below_alloc | apply pw_below_drewN | apply below_drew1 | refine below_set ?_ GE484.out) | exact HB.out)) hb); clear BK484; clear HB; have HO491 := n0_; have BK484 := n1_; have HB := n2_; clear n0_ n1_ n2_; (try clear hb); (try clear hb2); (try clear hk); (try clear hi); (try clear ho0); obtain ⟨Ao23, co23, eo23⟩ := Kd.N_slice HO491.out; subst eo23))
                repeat (go_quiet (first | (go_at_call 130; (with_reducible refine (spec_syOrders.calls kj3 (l2.length : Int) t489 _ A20.out).mono ?_); rintro e w22 ⟨v490, rfl, ho0, hb⟩; have n0_ := Aside0.mk (Kd.N_lower (Kd.N_mono (ok' := fun k_ => k_ ≠ gb484) ho0 (fun k_ hk_ => (Kd.freshB (g := gb484) (o := .cells #[.int .i64 a1_0, .int .i64 a1_1, .int .i64 a1_2] 52 (0, 0)) (by (with_reducible repeat (first | refine blk_drewN ?_ _ | refine blk_drew ?_ | refine blk_alloc ?_ _)); exact BK484.out) k_ hk_))) (below_size (by repeat (first | (with_reducible first | exact HB.out | apply below_alloc | apply pw_below_drewN | apply below_drew1 | refine below_set ?_ GE484.out) | exact HB.out)))); have n1_ := Aside0.mk (blk_below (g := gb484) (o := .cells #[.int .i64 a1_0, .int .i64 a1_1, .int .i64 a1_2] 52 (0, 0)) (by (with_reducible repeat (first | refine blk_drewN ?_ _ | refine blk_drew ?_ | refine blk_alloc ?_ _)); exact BK484.out) hb); have n2_ := Aside0.mk (below_step (by repeat (first | (with_reducible first | exact HB.out | apply below_alloc | apply pw_below_drewN | apply below_drew1 | refine below_set ?_ GE484.out) | exact HB.out)) hb); clear BK484; clear HB; have HO491 := n0_; have BK484 := n1_; have HB := n2_; clear n0_ n1_ n2_; (try clear hb); (try clear hb2); (try clear hk); (try clear hi); (try clear ho0); obtain ⟨Ao23, co23, eo23⟩ := Kd.N_slice HO491.out; subst eo23)); try go_wp2_with (first | (go_at_call 130; (with_reducible refine (spec_syOrders.calls kj3 (l2.length : Int) t489 _ A20.out).mono ?_); rintro e w22 ⟨v490, rfl, ho0, hb⟩; have n0_ := Aside0.mk (Kd.N_lower (Kd.N_mono (ok' := fun k_ => k_ ≠ gb484) ho0 (fun k_ hk_ => (Kd.freshB (g := gb484) (o := .cells #[.int .i64 a1_0, .int .i64 a1_1, .int .i64 a1_2] 52 (0, 0)) (by (with_reducible repeat (first | refine blk_drewN ?_ _ | refine blk_drew ?_ | refine blk_alloc ?_ _)); exact BK484.out) k_ hk_))) (below_size (by repeat (first | (with_reducible first | exact HB.out | apply below_alloc | apply pw_below_drewN | apply below_drew1 | refine below_set ?_ GE484.out) | exact HB.out)))); have n1_ := Aside0.mk (blk_below (g := gb484) (o := .cells #[.int .i64 a1_0, .int .i64 a1_1, .int .i64 a1_2] 52 (0, 0)) (by (with_reducible repeat (first | refine blk_drewN ?_ _ | refine blk_drew ?_ | refine blk_alloc ?_ _)); exact BK484.out) hb); have n2_ := Aside0.mk (below_step (by repeat (first | (with_reducible first | exact HB.out | apply below_alloc | apply pw_below_drewN | apply below_drew1 | refine below_set ?_ GE484.out) | exact HB.out)) hb); clear BK484; clear HB; have HO491 := n0_; have BK484 := n1_; have HB := n2_; clear n0_ n1_ n2_; (try clear hb); (try clear hb2); (try clear hk); (try clear hi); (try clear ho0); obtain ⟨Ao23, co23, eo23⟩ := Kd.N_slice HO491.out; subst eo23)))
                go_loopg [10, 47] kj3 (fun kq v10 v47 w' => ∃ (x10_2 : List Int) (x47_2 : Int), v47 = .int .i64 x47_2 ∧ Aside0 (spec_GiftTerms.l0 kq l0 l2 (rd l0 a1_0) (rd l0 a1_1) x10_2 t489 (t489.length : Int) x47_2 a1_0 a1_1 a1_2 = some (r1, r2)) ∧ Aside0 (kq ≤ kj3) ∧ Aside0 (Kd.R (Kd.int .i64) 3 w' w.heap.size (fun _ => True) v10 x10_2) ∧ Aside0 (Kd.N (Kd.slice 3 (Kd.int .i64)) 24 w' w.heap.size (fun k_ => some k_ ≠ (v10 : Value).ownBlock ∧ k_ ≠ gb484) (.slice Ao23 t489.length co23) t489) ∧ Aside0 (w'.heap[gb484]? = some (.cells #[.int .i64 a1_0, .int .i64 a1_1, .int .i64 a1_2] 52 (0, 0))) ∧ Aside0 (Below w.heap.size w w'))
                case atStart => exact ⟨(([] : List Int)), (0), (by first | rfl | (simp; done) | (simp [*]; done)), H', ⟨Nat.le_refl _⟩, ⟨by first | exact Kd.R_nil _ _ _ _ _ | exact Kd.N_nil _ _ _ _ _ | exact Kd.V_nil _ _ _ _ _ | exact Kd.Q_nil _ _ _ _ _ | exact Kd.S_nil _ _ _ _ _⟩, ⟨by (with_reducible repeat (first | apply Kd.N_alloc | apply Kd.N_drewN | apply Kd.N_drew)); exact Kd.N_mono HO491.out (fun _ hk => ⟨(by simp [Value.ownBlock]), hk⟩)⟩, ⟨by (with_reducible repeat (first | refine blk_drewN ?_ _ | refine blk_drew ?_ | refine blk_alloc ?_ _)); exact BK484.out⟩, ⟨by repeat (first | (with_reducible first | exact HB.out | apply below_alloc | apply pw_below_drewN | apply below_drew1 | refine below_set ?_ GE484.out) | exact HB.out)⟩⟩
                case round =>
                  clear H'
                  try clear c1
                  try clear c2
                  try clear p2
                  try clear c4
                  try clear p4
                  try clear q4
                  try clear hx4
                  try clear c7
                  try clear c9
                  try clear c15
                  try clear c16
                  try clear c16b0
                  try clear c17
                  try clear c17b0
                  try clear c18
                  try clear c18b0
                  try clear c19
                  try clear c19b0
                  try clear hcz10_0
                  try clear hcz10_1
                  try clear hcz10_2
                  try clear hcz12_0
                  try clear hcz12_1
                  try clear hcz12_2
                  try clear hcz13_0
                  try clear hcz13_1
                  try clear hcz13_2
                  try clear hcz21_0
                  try clear hcz21_1
                  try clear hcz21_2
                  try clear hfz10_0
                  try clear hfz10_1
                  try clear hfz10_2
                  try clear hfz12_0
                  try clear hfz12_1
                  try clear hfz12_2
                  try clear hfz13_0
                  try clear hfz13_1
                  try clear hfz13_2
                  try clear hfz21_0
                  try clear hfz21_1
                  try clear hfz21_2
                  try clear hx487_0
                  try clear hx488_0
                  try clear p2
                  try clear p487
                  try clear p488
                  try clear q487
                  try clear q488
                  obtain ⟨x10_2, x47_2, rfl, HA, HK2, HO_10, HO_45, BK484, HB⟩ := hrel
                  cases gk with
                  | zero => exact absurd HA.out (by simp [spec_GiftTerms.l0])
                  | succ k2 =>
                    have H := HA.out
                    clear HA
                    simp only [spec_GiftTerms.l0] at H
                    by_cases c24 : x47_2 < (t489.length : Int)
                    · rw [if_pos c24] at H
                      have c24b0 : decide (x47_2 < (t489.length : Int)) = true := decide_eq_true c24
                      clear c24
                      by_cases c25 : 0 ≤ x47_2
                      · rw [if_pos c25] at H
                        have c25b0 : decide (0 ≤ x47_2) = true := decide_eq_true c25
                        clear c25
                        by_cases c26 : x47_2 < (t489.length : Int)
                        · rw [if_pos c26] at H
                          have c26b0 : decide (x47_2 < (t489.length : Int)) = true := decide_eq_true c26
                          clear c26
                          by_cases c27 : 0 ≤ a1_0
                          · rw [if_pos c27] at H
                            have c27b0 : decide (0 ≤ a1_0) = true := decide_eq_true c27
                            clear c27
                            by_cases c28 : a1_0 < ((rd_L2 t489 x47_2).length : Int)
                            · rw [if_pos c28] at H
                              have c28b0 : decide (a1_0 < ((rd_L2 t489 x47_2).length : Int)) = true := decide_eq_true c28
                              clear c28
                              by_cases c29 : 0 ≤ (rd (rd_L2 t489 x47_2) a1_0)
                              · rw [if_pos c29] at H
                                have c29b0 : decide (0 ≤ (rd (rd_L2 t489 x47_2) a1_0)) = true := decide_eq_true c29
                                clear c29
                                by_cases c30 : (rd (rd_L2 t489 x47_2) a1_0) < (l2.length : Int)
                                · rw [if_pos c30] at H
                                  have c30b0 : decide ((rd (rd_L2 t489 x47_2) a1_0) < (l2.length : Int)) = true := decide_eq_true c30
                                  clear c30
                                  by_cases c31 : 0 ≤ a1_1
                                  · rw [if_pos c31] at H
                                    have c31b0 : decide (0 ≤ a1_1) = true := decide_eq_true c31
                                    clear c31
                                    by_cases c32 : a1_1 < ((rd_L2 t489 x47_2).length : Int)
                                    · rw [if_pos c32] at H
                                      have c32b0 : decide (a1_1 < ((rd_L2 t489 x47_2).length : Int)) = true := decide_eq_true c32
                                      clear c32
                                      by_cases c33 : 0 ≤ (rd (rd_L2 t489 x47_2) a1_1)
                                      · rw [if_pos c33] at H
                                        have c33b0 : decide (0 ≤ (rd (rd_L2 t489 x47_2) a1_1)) = true := decide_eq_true c33
                                        clear c33
                                        by_cases c34 : (rd (rd_L2 t489 x47_2) a1_1) < (l2.length : Int)
                                        · rw [if_pos c34] at H
                                          have c34b0 : decide ((rd (rd_L2 t489 x47_2) a1_1) < (l2.length : Int)) = true := decide_eq_true c34
                                          clear c34
                                          replace H := Option.bind_eq_some_iff.mp H
                                          obtain ⟨t497, A350, H⟩ := H
                                          replace H : ((spec_syPower.f k2 (rd l2 (rd (rd_L2 t489 x47_2) a1_0)) (wrap64 ((wrap64 ((rd l0 a1_0) - (rd l0 a1_1))) - 1))).bind fun t498 => ((spec_syPower.f k2 (rd l2 (rd (rd_L2 t489 x47_2) a1_1)) (wrap64 ((wrap64 ((rd l0 a1_0) - (rd l0 a1_1))) - 1))).bind fun t499 => (spec_GiftTerms.l1 k2 l0 l2 (rd l0 a1_0) (rd l0 a1_1) x10_2 (wrap64 ((wrap64 (t497 * (wrap64 (t498 - t499)))) * (wrap64 ((rd l2 (rd (rd_L2 t489 x47_2) a1_0)) - (rd l2 (rd (rd_L2 t489 x47_2) a1_1)))))) t489 (t489.length : Int) x47_2 (rd_L2 t489 x47_2) ((rd_L2 t489 x47_2).length : Int) 0 a1_0 a1_1 a1_2))) = some (r1, r2) := H
                                          have A35 := Aside0.mk A350
                                          clear A350
                                          replace H := Option.bind_eq_some_iff.mp H
                                          obtain ⟨t498, A360, H⟩ := H
                                          replace H : ((spec_syPower.f k2 (rd l2 (rd (rd_L2 t489 x47_2) a1_1)) (wrap64 ((wrap64 ((rd l0 a1_0) - (rd l0 a1_1))) - 1))).bind fun t499 => (spec_GiftTerms.l1 k2 l0 l2 (rd l0 a1_0) (rd l0 a1_1) x10_2 (wrap64 ((wrap64 (t497 * (wrap64 (t498 - t499)))) * (wrap64 ((rd l2 (rd (rd_L2 t489 x47_2) a1_0)) - (rd l2 (rd (rd_L2 t489 x47_2) a1_1)))))) t489 (t489.length : Int) x47_2 (rd_L2 t489 x47_2) ((rd_L2 t489 x47_2).length : Int) 0 a1_0 a1_1 a1_2)) = some (r1, r2) := H
                                          have A36 := Aside0.mk A360
                                          clear A360
                                          replace H := Option.bind_eq_some_iff.mp H
                                          obtain ⟨t499, A370, H⟩ := H
                                          replace H : (spec_GiftTerms.l1 k2 l0 l2 (rd l0 a1_0) (rd l0 a1_1) x10_2 (wrap64 ((wrap64 (t497 * (wrap64 (t498 - t499)))) * (wrap64 ((rd l2 (rd (rd_L2 t489 x47_2) a1_0)) - (rd l2 (rd (rd_L2 t489 x47_2) a1_1)))))) t489 (t489.length : Int) x47_2 (rd_L2 t489 x47_2) ((rd_L2 t489 x47_2).length : Int) 0 a1_0 a1_1 a1_2) = some (r1, r2) := H
                                          have A37 := Aside0.mk A370
                                          clear A370
                                          have H' := Aside0.mk H
                                          clear H
                                          have p492 : 0 ≤ (x47_2 : Int) := of_decide_eq_true (by first | (with_reducible assumption) | assumption)
                                          have q492 : x47_2 < (t489.length : Int) := of_decide_eq_true (by first | (with_reducible assumption) | assumption)
                                          obtain ⟨ad492, A492_0, c492_0, e492, hx492_0, hl492_0, hi492_0⟩ := at_L2 (Kd.N_reads' HO_45.out).2.2 x47_2 p492 q492
                                          cases e492
                                          obtain ⟨ce492, hce492, hMe492, hcc492⟩ := Kd.N_get HO_45.out [] x47_2 p492 (by first | exact q492 | exact of_decide_eq_true (by first | (with_reducible assumption) | assumption) | (have e_ := (Kd.N_reads' HO_45.out).1; omega))
                                          obtain ⟨ua492_0, uc492_0, rfl, ul492_0, ge492_0⟩ := Kd.FK_slice_open hMe492
                                          have hv492_0 := hcc492 0 _ rfl
                                          rw [Nat.add_zero, show ((Kd.slice 3 (Kd.int .i64))).sz = 1 from rfl, Nat.mul_one] at hv492_0
                                          replace hv492_0 := Option.some.inj (hv492_0.symm.trans hx492_0)
                                          injection hv492_0 with hva_ hvn_ hvc_
                                          rw [hva_] at ge492_0
                                          rw [hvc_] at ul492_0
                                          have HL492_0 := Aside0.mk (show Kd.V (Kd.int .i64) 3 _ w.heap.size _ _ (rd_L2 t489 x47_2) from Kd.V_mk ul492_0 ge492_0)
                                          clear hva_ hvn_ hvc_ ge492_0 ul492_0
                                          clear hcc492 hce492
                                          have HR492_0 := Aside0.mk hi492_0
                                          have HC492_0 := Aside0.mk hl492_0
                                          clear hi492_0 hl492_0
                                          replace p492 := eq_true p492
                                          replace q492 := eq_true q492
                                          have hcz38_0 : wr.cell? ⟨gb484, 0, none⟩ = some (.int .i64 a1_0) := (blk_cell BK484.out 0).trans rfl
                                          have hcz38_1 : wr.cell? ⟨gb484, 1, none⟩ = some (.int .i64 a1_1) := (blk_cell BK484.out 1).trans rfl
                                          have hcz38_2 : wr.cell? ⟨gb484, 2, none⟩ = some (.int .i64 a1_2) := (blk_cell BK484.out 2).trans rfl
                                          have hfz38_0 := blk_frozen BK484.out 0
                                          have hfz38_1 := blk_frozen BK484.out 1
                                          have hfz38_2 := blk_frozen BK484.out 2
                                          have p493 : 0 ≤ (a1_0 : Int) := of_decide_eq_true (by first | (with_reducible assumption) | assumption)
                                          have q493 : a1_0 < ((rd_L2 t489 x47_2).length : Int) := of_decide_eq_true (by first | (with_reducible assumption) | assumption)
                                          obtain ⟨ad493, e493, hx493_0⟩ := Kd.at_int (by repeat (first | (with_reducible exact HR492_0.out) | (with_reducible refine Kd.C_alloc ?_ _) | (with_reducible refine Kd.C_drewN ?_ _) | (with_reducible refine Kd.C_drew ?_) | exact HR492_0.out)) a1_0 p493 q493
                                          cases e493
                                          replace p493 := eq_true p493
                                          replace q493 := eq_true q493
                                          have p494 : 0 ≤ ((rd (rd_L2 t489 x47_2) a1_0) : Int) := of_decide_eq_true (by first | (with_reducible assumption) | assumption)
                                          have q494 : (rd (rd_L2 t489 x47_2) a1_0) < (l2.length : Int) := of_decide_eq_true (by first | (with_reducible assumption) | assumption)
                                          obtain ⟨ad494, e494, hx494_0⟩ := Kd.at_int HR2.out (rd (rd_L2 t489 x47_2) a1_0) p494 q494
                                          cases e494
                                          (first | (replace hx494_0 := (HB.out.cell (World.block_lt_of_cell? w _ hx494_0)).trans hx494_0) | skip)
                                          replace p494 := eq_true p494
                                          replace q494 := eq_true q494
                                          have p495 : 0 ≤ (a1_1 : Int) := of_decide_eq_true (by first | (with_reducible assumption) | assumption)
                                          have q495 : a1_1 < ((rd_L2 t489 x47_2).length : Int) := of_decide_eq_true (by first | (with_reducible assumption) | assumption)
                                          obtain ⟨ad495, e495, hx495_0⟩ := Kd.at_int (by repeat (first | (with_reducible exact HR492_0.out) | (with_reducible refine Kd.C_alloc ?_ _) | (with_reducible refine Kd.C_drewN ?_ _) | (with_reducible refine Kd.C_drew ?_) | exact HR492_0.out)) a1_1 p495 q495
                                          obtain rfl : ad493 = ad495 := (by injection e495)
                                          replace p495 := eq_true p495
                                          replace q495 := eq_true q495
                                          have p496 : 0 ≤ ((rd (rd_L2 t489 x47_2) a1_1) : Int) := of_decide_eq_true (by first | (with_reducible assumption) | assumption)
                                          have q496 : (rd (rd_L2 t489 x47_2) a1_1) < (l2.length : Int) := of_decide_eq_true (by first | (with_reducible assumption) | assumption)
                                          obtain ⟨ad496, e496, hx496_0⟩ := Kd.at_int HR2.out (rd (rd_L2 t489 x47_2) a1_1) p496 q496
                                          obtain rfl : ad494 = ad496 := (by injection e496)
                                          (first | (replace hx496_0 := (HB.out.cell (World.block_lt_of_cell? w _ hx496_0)).trans hx496_0) | skip)
                                          replace p496 := eq_true p496
                                          replace q496 := eq_true q496
                                          go_wp2_with (first | (go_at_call 131; (with_reducible refine (spec_syPower.calls k2 (wrap64 ((rd l2 (rd (rd_L2 t489 x47_2) a1_0)) * (rd l2 (rd (rd_L2 t489 x47_2) a1_1)))) (rd l0 a1_1) t497 _ A35.out).mono ?_); rintro e w' ⟨rfl, ⟨nd, rfl⟩⟩; (try first | exact ⟨rfl, _, World.drewN_drewN _ _ _⟩ | exact ⟨rfl, _, Eq.trans (World.drewN_drewN _ _ _) (congrArg (World.drewN _) (Nat.add_assoc _ _ _))⟩)) | (go_at_call 131; (with_reducible refine (spec_syPower.calls k2 (rd l2 (rd (rd_L2 t489 x47_2) a1_0)) (wrap64 ((wrap64 ((rd l0 a1_0) - (rd l0 a1_1))) - 1)) t498 _ A36.out).mono ?_); rintro e w' ⟨rfl, ⟨nd, rfl⟩⟩; (try first | exact ⟨rfl, _, World.drewN_drewN _ _ _⟩ | exact ⟨rfl, _, Eq.trans (World.drewN_drewN _ _ _) (congrArg (World.drewN _) (Nat.add_assoc _ _ _))⟩)) | (go_at_call 131; (with_reducible refine (spec_syPower.calls k2 (rd l2 (rd (rd_L2 t489 x47_2) a1_1)) (wrap64 ((wrap64 ((rd l0 a1_0) - (rd l0 a1_1))) - 1)) t499 _ A37.out).mono ?_); rintro e w' ⟨rfl, ⟨nd, rfl⟩⟩; (try first | exact ⟨rfl, _, World.drewN_drewN _ _ _⟩ | exact ⟨rfl, _, Eq.trans (World.drewN_drewN _ _ _) (congrArg (World.drewN _) (Nat.add_assoc _ _ _))⟩)))
                                          repeat (go_quiet (first | (go_at_call 131; (with_reducible refine (spec_syPower.calls k2 (wrap64 ((rd l2 (rd (rd_L2 t489 x47_2) a1_0)) * (rd l2 (rd (rd_L2 t489 x47_2) a1_1)))) (rd l0 a1_1) t497 _ A35.out).mono ?_); rintro e w' ⟨rfl, ⟨nd, rfl⟩⟩; (try first | exact ⟨rfl, _, World.drewN_drewN _ _ _⟩ | exact ⟨rfl, _, Eq.trans (World.drewN_drewN _ _ _) (congrArg (World.drewN _) (Nat.add_assoc _ _ _))⟩)) | (go_at_call 131; (with_reducible refine (spec_syPower.calls k2 (rd l2 (rd (rd_L2 t489 x47_2) a1_0)) (wrap64 ((wrap64 ((rd l0 a1_0) - (rd l0 a1_1))) - 1)) t498 _ A36.out).mono ?_); rintro e w' ⟨rfl, ⟨nd, rfl⟩⟩; (try first | exact ⟨rfl, _, World.drewN_drewN _ _ _⟩ | exact ⟨rfl, _, Eq.trans (World.drewN_drewN _ _ _) (congrArg (World.drewN _) (Nat.add_assoc _ _ _))⟩)) | (go_at_call 131; (with_reducible refine (spec_syPower.calls k2 (rd l2 (rd (rd_L2 t489 x47_2) a1_1)) (wrap64 ((wrap64 ((rd l0 a1_0) - (rd l0 a1_1))) - 1)) t499 _ A37.out).mono ?_); rintro e w' ⟨rfl, ⟨nd, rfl⟩⟩; (try first | exact ⟨rfl, _, World.drewN_drewN _ _ _⟩ | exact ⟨rfl, _, Eq.trans (World.drewN_drewN _ _ _) (congrArg (World.drewN _) (Nat.add_assoc _ _ _))⟩))); try go_wp2_with (first | (go_at_call 131; (with_reducible refine (spec_syPower.calls k2 (wrap64 ((rd l2 (rd (rd_L2 t489 x47_2) a1_0)) * (rd l2 (rd (rd_L2 t489 x47_2) a1_1)))) (rd l0 a1_1) t497 _ A35.out).mono ?_); rintro e w' ⟨rfl, ⟨nd, rfl⟩⟩; (try first | exact ⟨rfl, _, World.drewN_drewN _ _ _⟩ | exact ⟨rfl, _, Eq.trans (World.drewN_drewN _ _ _) (congrArg (World.drewN _) (Nat.add_assoc _ _ _))⟩)) | (go_at_call 131; (with_reducible refine (spec_syPower.calls k2 (rd l2 (rd (rd_L2 t489 x47_2) a1_0)) (wrap64 ((wrap64 ((rd l0 a1_0) - (rd l0 a1_1))) - 1)) t498 _ A36.out).mono ?_); rintro e w' ⟨rfl, ⟨nd, rfl⟩⟩; (try first | exact ⟨rfl, _, World.drewN_drewN _ _ _⟩ | exact ⟨rfl, _, Eq.trans (World.drewN_drewN _ _ _) (congrArg (World.drewN _) (Nat.add_assoc _ _ _))⟩)) | (go_at_call 131; (with_reducible refine (spec_syPower.calls k2 (rd l2 (rd (rd_L2 t489 x47_2) a1_1)) (wrap64 ((wrap64 ((rd l0 a1_0) - (rd l0 a1_1))) - 1)) t499 _ A37.out).mono ?_); rintro e w' ⟨rfl, ⟨nd, rfl⟩⟩; (try first | exact ⟨rfl, _, World.drewN_drewN _ _ _⟩ | exact ⟨rfl, _, Eq.trans (World.drewN_drewN _ _ _) (congrArg (World.drewN _) (Nat.add_assoc _ _ _))⟩))))
                                          go_loopg [15, 92] k2 (fun kq v15 v92 w' => ∃ (x15_3 : Int) (x92_3 : Int), v15 = .int .i64 x15_3 ∧ v92 = .int .i64 x92_3 ∧ Aside0 (spec_GiftTerms.l1 kq l0 l2 (rd l0 a1_0) (rd l0 a1_1) x10_2 x15_3 t489 (t489.length : Int) x47_2 (rd_L2 t489 x47_2) ((rd_L2 t489 x47_2).length : Int) x92_3 a1_0 a1_1 a1_2 = some (r1, r2)) ∧ Aside0 (kq ≤ k2) ∧ Aside0 (Kd.R (Kd.int .i64) 3 w' w.heap.size (fun _ => True) u10 x10_2) ∧ Aside0 (Kd.N (Kd.slice 3 (Kd.int .i64)) 24 w' w.heap.size (fun k_ => some k_ ≠ (u10 : Value).ownBlock ∧ k_ ≠ gb484) (.slice (some ad492) t489.length co23) t489) ∧ Aside0 (w'.heap[gb484]? = some (.cells #[.int .i64 a1_0, .int .i64 a1_1, .int .i64 a1_2] 52 (0, 0))) ∧ Aside0 (Kd.C (Kd.int .i64) w' (some ad493) (rd_L2 t489 x47_2).length (rd_L2 t489 x47_2)) ∧ Aside0 (Below w.heap.size w w'))
                                          case atStart => exact ⟨(wrap64 ((wrap64 (t497 * (wrap64 (t498 - t499)))) * (wrap64 ((rd l2 (rd (rd_L2 t489 x47_2) a1_0)) - (rd l2 (rd (rd_L2 t489 x47_2) a1_1)))))), (0), (by first | rfl | (simp; done) | (simp [*]; done)), (by first | rfl | (simp; done) | (simp [*]; done)), H', ⟨Nat.le_refl _⟩, ⟨by (with_reducible repeat (first | apply Kd.R_alloc | apply Kd.R_drewN | apply Kd.R_drew)); exact HO_10.out⟩, ⟨by (with_reducible repeat (first | apply Kd.N_alloc | apply Kd.N_drewN | apply Kd.N_drew)); exact HO_45.out⟩, ⟨by (with_reducible repeat (first | refine blk_drewN ?_ _ | refine blk_drew ?_ | refine blk_alloc ?_ _)); exact BK484.out⟩, ⟨by repeat (first | (with_reducible exact HR492_0.out) | (with_reducible refine Kd.C_alloc ?_ _) | (with_reducible refine Kd.C_drewN ?_ _) | (with_reducible refine Kd.C_drew ?_) | exact HR492_0.out)⟩, ⟨by repeat (first | (with_reducible first | exact HB.out | apply below_alloc | apply pw_below_drewN | apply below_drew1 | refine below_set ?_ GE484.out) | exact HB.out)⟩⟩
                                          case round =>
                                            clear H'
                                            try clear c1
                                            try clear c2
                                            try clear p2
                                            try clear c3
                                            try clear c4
                                            try clear p4
                                            try clear q4
                                            try clear hx4
                                            try clear p6
                                            try clear c7
                                            try clear c9
                                            try clear c15
                                            try clear c16
                                            try clear c16b0
                                            try clear c17
                                            try clear c17b0
                                            try clear c18
                                            try clear c18b0
                                            try clear c19
                                            try clear c19b0
                                            try clear c24
                                            try clear c24b0
                                            try clear c25
                                            try clear c25b0
                                            try clear c26
                                            try clear c26b0
                                            try clear c27
                                            try clear c27b0
                                            try clear c28
                                            try clear c28b0
                                            try clear c29
                                            try clear c29b0
                                            try clear c30
                                            try clear c30b0
                                            try clear c31
                                            try clear c31b0
                                            try clear c32
                                            try clear c32b0
                                            try clear c33
                                            try clear c33b0
                                            try clear c34
                                            try clear c34b0
                                            try clear hcz10_0
                                            try clear hcz10_1
                                            try clear hcz10_2
                                            try clear hcz12_0
                                            try clear hcz12_1
                                            try clear hcz12_2
                                            try clear hcz13_0
                                            try clear hcz13_1
                                            try clear hcz13_2
                                            try clear hcz21_0
                                            try clear hcz21_1
                                            try clear hcz21_2
                                            try clear hcz38_0
                                            try clear hcz38_1
                                            try clear hcz38_2
                                            try clear hfz10_0
                                            try clear hfz10_1
                                            try clear hfz10_2
                                            try clear hfz12_0
                                            try clear hfz12_1
                                            try clear hfz12_2
                                            try clear hfz13_0
                                            try clear hfz13_1
                                            try clear hfz13_2
                                            try clear hfz21_0
                                            try clear hfz21_1
                                            try clear hfz21_2
                                            try clear hfz38_0
                                            try clear hfz38_1
                                            try clear hfz38_2
                                            try clear hx487_0
                                            try clear hx488_0
                                            try clear hx492_0
                                            try clear hx493_0
                                            try clear hx494_0
                                            try clear hx495_0
                                            try clear hx496_0
                                            try clear p2
                                            try clear p4
                                            try clear p487
                                            try clear p488
                                            try clear p492
                                            try clear p493
                                            try clear p494
                                            try clear p495
                                            try clear p496
                                            try clear q4
                                            try clear q487
                                            try clear q488
                                            try clear q492
                                            try clear q493
                                            try clear q494
                                            try clear q495
                                            try clear q496
                                            obtain ⟨x15_3, x92_3, rfl, rfl, HA, HK3, HO_10, HO_45, BK484, HR492_0, HB⟩ := hrel
                                            cases gk with
                                            | zero => exact absurd HA.out (by simp [spec_GiftTerms.l1])
                                            | succ k3 =>
                                              have H := HA.out
                                              clear HA
                                              simp only [spec_GiftTerms.l1] at H
                                              by_cases c39 : x92_3 < ((rd_L2 t489 x47_2).length : Int)
                                              · rw [if_pos c39] at H
                                                have c39b0 : decide (x92_3 < ((rd_L2 t489 x47_2).length : Int)) = true := decide_eq_true c39
                                                clear c39
                                                by_cases c40 : 0 ≤ x92_3
                                                · rw [if_pos c40] at H
                                                  have c40b0 : decide (0 ≤ x92_3) = true := decide_eq_true c40
                                                  clear c40
                                                  by_cases c41 : x92_3 < ((rd_L2 t489 x47_2).length : Int)
                                                  · rw [if_pos c41] at H
                                                    have c41b0 : decide (x92_3 < ((rd_L2 t489 x47_2).length : Int)) = true := decide_eq_true c41
                                                    clear c41
                                                    by_cases c42 : x92_3 = a1_0
                                                    · rw [if_pos c42] at H
                                                      have c42b0 : (x92_3 == a1_0) = true := beq_iff_eq.mpr c42
                                                      have c42b1 : (x92_3 != a1_0) = false := bne_eq_false_iff_eq.mpr c42
                                                      clear c42
                                                      have H' := Aside0.mk H
                                                      clear H
                                                      have p500 : 0 ≤ (x92_3 : Int) := of_decide_eq_true (by first | (with_reducible assumption) | assumption)
                                                      have q500 : x92_3 < ((rd_L2 t489 x47_2).length : Int) := of_decide_eq_true (by first | (with_reducible assumption) | assumption)
                                                      obtain ⟨ad500, e500, hx500_0⟩ := Kd.at_int HR492_0.out x92_3 p500 q500
                                                      obtain rfl : ad493 = ad500 := (by injection e500)
                                                      (first | (replace hx500_0 := (HB.out.cell (World.block_lt_of_cell? w _ hx500_0)).trans hx500_0) | skip)
                                                      replace p500 := eq_true p500
                                                      replace q500 := eq_true q500
                                                      have hcz43_0 : wr.cell? ⟨gb484, 0, none⟩ = some (.int .i64 a1_0) := (blk_cell BK484.out 0).trans rfl
                                                      have hcz43_1 : wr.cell? ⟨gb484, 1, none⟩ = some (.int .i64 a1_1) := (blk_cell BK484.out 1).trans rfl
                                                      have hcz43_2 : wr.cell? ⟨gb484, 2, none⟩ = some (.int .i64 a1_2) := (blk_cell BK484.out 2).trans rfl
                                                      have hfz43_0 := blk_frozen BK484.out 0
                                                      have hfz43_1 := blk_frozen BK484.out 1
                                                      have hfz43_2 := blk_frozen BK484.out 2
                                                      go_wp2
                                                      repeat (go_quiet (fail); try go_wp2)
                                                      go_roundg k3
                                                      case measure => have := HJ3.out; have := HK2.out; have := HK3.out; omega
                                                      case rel => exact ⟨(x15_3), (wrap64 (x92_3 + 1)), (by first | rfl | (simp; done) | (simp [*]; done)), (by first | rfl | (simp; done) | (simp [*]; done)), H', ⟨by have := HJ3.out; have := HK2.out; have := HK3.out; omega⟩, ⟨by (with_reducible repeat (first | apply Kd.R_alloc | apply Kd.R_drewN | apply Kd.R_drew)); exact HO_10.out⟩, ⟨by (with_reducible repeat (first | apply Kd.N_alloc | apply Kd.N_drewN | apply Kd.N_drew)); exact HO_45.out⟩, ⟨by (with_reducible repeat (first | refine blk_drewN ?_ _ | refine blk_drew ?_ | refine blk_alloc ?_ _)); exact BK484.out⟩, ⟨by repeat (first | (with_reducible exact HR492_0.out) | (with_reducible refine Kd.C_alloc ?_ _) | (with_reducible refine Kd.C_drewN ?_ _) | (with_reducible refine Kd.C_drew ?_) | exact HR492_0.out)⟩, ⟨by repeat (first | (with_reducible first | exact HB.out | apply below_alloc | apply pw_below_drewN | apply below_drew1 | refine below_set ?_ GE484.out) | exact HB.out)⟩⟩
                                                    · rw [if_neg c42] at H
                                                      have c42b0 : (x92_3 == a1_0) = false := beq_eq_false_iff_ne.mpr c42
                                                      have c42b1 : (x92_3 != a1_0) = true := bne_iff_ne.mpr c42
                                                      by_cases c44 : x92_3 = a1_1
                                                      · rw [if_pos c44] at H
                                                        have c44b0 : (x92_3 == a1_1) = true := beq_iff_eq.mpr c44
                                                        have c44b1 : (x92_3 != a1_1) = false := bne_eq_false_iff_eq.mpr c44
                                                        clear c44
                                                        have H' := Aside0.mk H
                                                        clear H
                                                        have p500 : 0 ≤ (x92_3 : Int) := of_decide_eq_true (by first | (with_reducible assumption) | assumption)
                                                        have q500 : x92_3 < ((rd_L2 t489 x47_2).length : Int) := of_decide_eq_true (by first | (with_reducible assumption) | assumption)
                                                        obtain ⟨ad500, e500, hx500_0⟩ := Kd.at_int HR492_0.out x92_3 p500 q500
                                                        obtain rfl : ad493 = ad500 := (by injection e500)
                                                        (first | (replace hx500_0 := (HB.out.cell (World.block_lt_of_cell? w _ hx500_0)).trans hx500_0) | skip)
                                                        replace p500 := eq_true p500
                                                        replace q500 := eq_true q500
                                                        have hcz45_0 : wr.cell? ⟨gb484, 0, none⟩ = some (.int .i64 a1_0) := (blk_cell BK484.out 0).trans rfl
                                                        have hcz45_1 : wr.cell? ⟨gb484, 1, none⟩ = some (.int .i64 a1_1) := (blk_cell BK484.out 1).trans rfl
                                                        have hcz45_2 : wr.cell? ⟨gb484, 2, none⟩ = some (.int .i64 a1_2) := (blk_cell BK484.out 2).trans rfl
                                                        have hfz45_0 := blk_frozen BK484.out 0
                                                        have hfz45_1 := blk_frozen BK484.out 1
                                                        have hfz45_2 := blk_frozen BK484.out 2
                                                        go_wp2
                                                        repeat (go_quiet (fail); try go_wp2)
                                                        go_roundg k3
                                                        case measure => have := HJ3.out; have := HK2.out; have := HK3.out; omega
                                                        case rel => exact ⟨(x15_3), (wrap64 (x92_3 + 1)), (by first | rfl | (simp; done) | (simp [*]; done)), (by first | rfl | (simp; done) | (simp [*]; done)), H', ⟨by have := HJ3.out; have := HK2.out; have := HK3.out; omega⟩, ⟨by (with_reducible repeat (first | apply Kd.R_alloc | apply Kd.R_drewN | apply Kd.R_drew)); exact HO_10.out⟩, ⟨by (with_reducible repeat (first | apply Kd.N_alloc | apply Kd.N_drewN | apply Kd.N_drew)); exact HO_45.out⟩, ⟨by (with_reducible repeat (first | refine blk_drewN ?_ _ | refine blk_drew ?_ | refine blk_alloc ?_ _)); exact BK484.out⟩, ⟨by repeat (first | (with_reducible exact HR492_0.out) | (with_reducible refine Kd.C_alloc ?_ _) | (with_reducible refine Kd.C_drewN ?_ _) | (with_reducible refine Kd.C_drew ?_) | exact HR492_0.out)⟩, ⟨by repeat (first | (with_reducible first | exact HB.out | apply below_alloc | apply pw_below_drewN | apply below_drew1 | refine below_set ?_ GE484.out) | exact HB.out)⟩⟩
                                                      · rw [if_neg c44] at H
                                                        have c44b0 : (x92_3 == a1_1) = false := beq_eq_false_iff_ne.mpr c44
                                                        have c44b1 : (x92_3 != a1_1) = true := bne_iff_ne.mpr c44
                                                        by_cases c46 : 0 ≤ (rd (rd_L2 t489 x47_2) x92_3)
                                                        · rw [if_pos c46] at H
                                                          have c46b0 : decide (0 ≤ (rd (rd_L2 t489 x47_2) x92_3)) = true := decide_eq_true c46
                                                          clear c46
                                                          by_cases c47 : (rd (rd_L2 t489 x47_2) x92_3) < (l2.length : Int)
                                                          · rw [if_pos c47] at H
                                                            have c47b0 : decide ((rd (rd_L2 t489 x47_2) x92_3) < (l2.length : Int)) = true := decide_eq_true c47
                                                            clear c47
                                                            by_cases c48 : x92_3 < (l0.length : Int)
                                                            · rw [if_pos c48] at H
                                                              have c48b0 : decide (x92_3 < (l0.length : Int)) = true := decide_eq_true c48
                                                              clear c48
                                                              replace H := Option.bind_eq_some_iff.mp H
                                                              obtain ⟨t503, A490, H⟩ := H
                                                              replace H : (spec_GiftTerms.l1 k3 l0 l2 (rd l0 a1_0) (rd l0 a1_1) x10_2 (wrap64 (x15_3 * t503)) t489 (t489.length : Int) x47_2 (rd_L2 t489 x47_2) ((rd_L2 t489 x47_2).length : Int) (wrap64 (x92_3 + 1)) a1_0 a1_1 a1_2) = some (r1, r2) := H
                                                              have A49 := Aside0.mk A490
                                                              clear A490
                                                              have H' := Aside0.mk H
                                                              clear H
                                                              have p500 : 0 ≤ (x92_3 : Int) := of_decide_eq_true (by first | (with_reducible assumption) | assumption)
                                                              have q500 : x92_3 < ((rd_L2 t489 x47_2).length : Int) := of_decide_eq_true (by first | (with_reducible assumption) | assumption)
                                                              obtain ⟨ad500, e500, hx500_0⟩ := Kd.at_int HR492_0.out x92_3 p500 q500
                                                              obtain rfl : ad493 = ad500 := (by injection e500)
                                                              (first | (replace hx500_0 := (HB.out.cell (World.block_lt_of_cell? w _ hx500_0)).trans hx500_0) | skip)
                                                              replace p500 := eq_true p500
                                                              replace q500 := eq_true q500
                                                              have hcz50_0 : wr.cell? ⟨gb484, 0, none⟩ = some (.int .i64 a1_0) := (blk_cell BK484.out 0).trans rfl
                                                              have hcz50_1 : wr.cell? ⟨gb484, 1, none⟩ = some (.int .i64 a1_1) := (blk_cell BK484.out 1).trans rfl
                                                              have hcz50_2 : wr.cell? ⟨gb484, 2, none⟩ = some (.int .i64 a1_2) := (blk_cell BK484.out 2).trans rfl
                                                              have hfz50_0 := blk_frozen BK484.out 0
                                                              have hfz50_1 := blk_frozen BK484.out 1
                                                              have hfz50_2 := blk_frozen BK484.out 2
                                                              have p501 : 0 ≤ ((rd (rd_L2 t489 x47_2) x92_3) : Int) := of_decide_eq_true (by first | (with_reducible assumption) | assumption)
                                                              have q501 : (rd (rd_L2 t489 x47_2) x92_3) < (l2.length : Int) := of_decide_eq_true (by first | (with_reducible assumption) | assumption)
                                                              obtain ⟨ad501, e501, hx501_0⟩ := Kd.at_int HR2.out (rd (rd_L2 t489 x47_2) x92_3) p501 q501
                                                              obtain rfl : ad494 = ad501 := (by injection e501)
                                                              (first | (replace hx501_0 := (HB.out.cell (World.block_lt_of_cell? w _ hx501_0)).trans hx501_0) | skip)
                                                              replace p501 := eq_true p501
                                                              replace q501 := eq_true q501
                                                              have p502 : 0 ≤ (x92_3 : Int) := of_decide_eq_true (by first | (with_reducible assumption) | assumption)
                                                              have q502 : x92_3 < (l0.length : Int) := of_decide_eq_true (by first | (with_reducible assumption) | assumption)
                                                              obtain ⟨ad502, e502, hx502_0⟩ := Kd.at_int HR0.out x92_3 p502 q502
                                                              obtain rfl : ad487 = ad502 := (by injection e502)
                                                              (first | (replace hx502_0 := (HB.out.cell (World.block_lt_of_cell? w _ hx502_0)).trans hx502_0) | skip)
                                                              replace p502 := eq_true p502
                                                              replace q502 := eq_true q502
                                                              go_wp2_with (first | (go_at_call 131; (with_reducible refine (spec_syPower.calls k3 (rd l2 (rd (rd_L2 t489 x47_2) x92_3)) (rd l0 x92_3) t503 _ A49.out).mono ?_); rintro e w' ⟨rfl, ⟨nd, rfl⟩⟩; (try first | exact ⟨rfl, _, World.drewN_drewN _ _ _⟩ | exact ⟨rfl, _, Eq.trans (World.drewN_drewN _ _ _) (congrArg (World.drewN _) (Nat.add_assoc _ _ _))⟩)))
                                                              repeat (go_quiet (first | (go_at_call 131; (with_reducible refine (spec_syPower.calls k3 (rd l2 (rd (rd_L2 t489 x47_2) x92_3)) (rd l0 x92_3) t503 _ A49.out).mono ?_); rintro e w' ⟨rfl, ⟨nd, rfl⟩⟩; (try first | exact ⟨rfl, _, World.drewN_drewN _ _ _⟩ | exact ⟨rfl, _, Eq.trans (World.drewN_drewN _ _ _) (congrArg (World.drewN _) (Nat.add_assoc _ _ _))⟩))); try go_wp2_with (first | (go_at_call 131; (with_reducible refine (spec_syPower.calls k3 (rd l2 (rd (rd_L2 t489 x47_2) x92_3)) (rd l0 x92_3) t503 _ A49.out).mono ?_); rintro e w' ⟨rfl, ⟨nd, rfl⟩⟩; (try first | exact ⟨rfl, _, World.drewN_drewN _ _ _⟩ | exact ⟨rfl, _, Eq.trans (World.drewN_drewN _ _ _) (congrArg (World.drewN _) (Nat.add_assoc _ _ _))⟩))))
                                                              go_roundg k3
                                                              case measure => have := HJ3.out; have := HK2.out; have := HK3.out; omega
                                                              case rel => exact ⟨(wrap64 (x15_3 * t503)), (wrap64 (x92_3 + 1)), (by first | rfl | (simp; done) | (simp [*]; done)), (by first | rfl | (simp; done) | (simp [*]; done)), H', ⟨by have := HJ3.out; have := HK2.out; have := HK3.out; omega⟩, ⟨by (with_reducible repeat (first | apply Kd.R_alloc | apply Kd.R_drewN | apply Kd.R_drew)); exact HO_10.out⟩, ⟨by (with_reducible repeat (first | apply Kd.N_alloc | apply Kd.N_drewN | apply Kd.N_drew)); exact HO_45.out⟩, ⟨by (with_reducible repeat (first | refine blk_drewN ?_ _ | refine blk_drew ?_ | refine blk_alloc ?_ _)); exact BK484.out⟩, ⟨by repeat (first | (with_reducible exact HR492_0.out) | (with_reducible refine Kd.C_alloc ?_ _) | (with_reducible refine Kd.C_drewN ?_ _) | (with_reducible refine Kd.C_drew ?_) | exact HR492_0.out)⟩, ⟨by repeat (first | (with_reducible first | exact HB.out | apply below_alloc | apply pw_below_drewN | apply below_drew1 | refine below_set ?_ GE484.out) | exact HB.out)⟩⟩
                                                            · rw [if_neg c48] at H
                                                              exact absurd H (by simp)
                                                          · rw [if_neg c47] at H
                                                            exact absurd H (by simp)
                                                        · rw [if_neg c46] at H
                                                          exact absurd H (by simp)
                                                  · rw [if_neg c41] at H
                                                    exact absurd H (by simp)
                                                · rw [if_neg c40] at H
                                                  exact absurd H (by simp)
                                              · rw [if_neg c39] at H
                                                have c39b0 : decide (x92_3 < ((rd_L2 t489 x47_2).length : Int)) = false := decide_eq_false c39
                                                clear c39
                                                by_cases c51 : x10_2.length < 17592186044416
                                                · rw [if_pos c51] at H
                                                  have LMc51 := Aside0.mk c51
                                                  clear c51
                                                  obtain ⟨y504, hy504⟩ : ∃ y_ : List Int, y_ = (x10_2 ++ [x15_3]) := ⟨_, rfl⟩
                                                  replace H : (spec_GiftTerms.l0 k3 l0 l2 (rd l0 a1_0) (rd l0 a1_1) y504 t489 (t489.length : Int) (wrap64 (x47_2 + 1)) a1_0 a1_1 a1_2) = some (r1, r2) := by first | (rw [hy504]; with_reducible exact H) | (have H2_ := (Option.bind_some _ _).symm.trans H; rw [hy504]; with_reducible exact H2_) | (have H2_ := (Option.bind_some _ _).symm.trans H; with_reducible exact H2_) | with_reducible exact H | (rw [hy504]; exact H) | exact H
                                                  have Ny504 := Aside0.mk hy504
                                                  clear hy504
                                                  have H' := Aside0.mk H
                                                  clear H
                                                  go_wp2_with (first | ((with_reducible refine gate_builtin (b := .append) (xs := #[.tmp 119, .tmp 121]) rfl ?_); at_builtin; refine Kd.R_append (Kd.int .i64) (w0 := w) w.heap.size rfl (.tmp 119) (.tmp 121) 24 3 (.int .i64 0) 8 rfl Try.underlying24 info3 rfl (by decide) (by omega) u10 x10_2 x15_3 [.int .i64 x15_3] (fun _ => True) (fun _ => False) rfl rfl ?aP (fun _ hk => hk.elim) ?aF ?aO ?aB ?aS ?aL ?_; (case aP => exact rfl); (case aB => exact (by repeat (first | (with_reducible first | exact HB.out | apply below_alloc | apply pw_below_drewN | apply below_drew1 | refine below_set ?_ GE484.out) | exact HB.out))); (case aF => exact (fun _ _ => trivial)); (case aO => exact (by (with_reducible repeat (first | apply Kd.R_alloc | apply Kd.R_drewN | apply Kd.R_drew)); exact HO_10.out)); (case aS => exact (below_size (by repeat (first | (with_reducible first | exact HB.out | apply below_alloc | apply pw_below_drewN | apply below_drew1 | refine below_set ?_ GE484.out) | exact HB.out)))); (case aL => have := LMc51.out; omega); intro v505 w52 ho hb hg hat; rw [← Ny504.out] at ho; have n0_ := Aside0.mk (Kd.N_afterv (ok := (fun k_ => k_ ≠ gb484)) (by (with_reducible repeat (first | apply Kd.N_alloc | apply Kd.N_drewN | apply Kd.N_drew)); exact Kd.N_mono HO_45.out (fun _ hk => ⟨hk.2, hk.1⟩)) hg hat); have n1_ := Aside0.mk (blk_grown (g := gb484) (o := .cells #[.int .i64 a1_0, .int .i64 a1_1, .int .i64 a1_2] 52 (0, 0)) (by (with_reducible repeat (first | refine blk_drewN ?_ _ | refine blk_drew ?_ | refine blk_alloc ?_ _)); exact BK484.out) hg (Kd.R_ne HO_10.out BK484.out (by decide))); have n2_ := Aside0.mk (hb); have n3_ := Aside0.mk (ho); clear HO_45; clear BK484; clear HB; clear HO_10; have HO_45 := n0_; have BK484 := n1_; have HB := n2_; have HO506 := n3_; clear n0_ n1_ n2_ n3_; clear ho hb hg hat))
                                                  repeat (go_quiet (first | ((with_reducible refine gate_builtin (b := .append) (xs := #[.tmp 119, .tmp 121]) rfl ?_); at_builtin; refine Kd.R_append (Kd.int .i64) (w0 := w) w.heap.size rfl (.tmp 119) (.tmp 121) 24 3 (.int .i64 0) 8 rfl Try.underlying24 info3 rfl (by decide) (by omega) u10 x10_2 x15_3 [.int .i64 x15_3] (fun _ => True) (fun _ => False) rfl rfl ?aP (fun _ hk => hk.elim) ?aF ?aO ?aB ?aS ?aL ?_; (case aP => exact rfl); (case aB => exact (by repeat (first | (with_reducible first | exact HB.out | apply below_alloc | apply pw_below_drewN | apply below_drew1 | refine below_set ?_ GE484.out) | exact HB.out))); (case aF => exact (fun _ _ => trivial)); (case aO => exact (by (with_reducible repeat (first | apply Kd.R_alloc | apply Kd.R_drewN | apply Kd.R_drew)); exact HO_10.out)); (case aS => exact (below_size (by repeat (first | (with_reducible first | exact HB.out | apply below_alloc | apply pw_below_drewN | apply below_drew1 | refine below_set ?_ GE484.out) | exact HB.out)))); (case aL => have := LMc51.out; omega); intro v505 w52 ho hb hg hat; rw [← Ny504.out] at ho; have n0_ := Aside0.mk (Kd.N_afterv (ok := (fun k_ => k_ ≠ gb484)) (by (with_reducible repeat (first | apply Kd.N_alloc | apply Kd.N_drewN | apply Kd.N_drew)); exact Kd.N_mono HO_45.out (fun _ hk => ⟨hk.2, hk.1⟩)) hg hat); have n1_ := Aside0.mk (blk_grown (g := gb484) (o := .cells #[.int .i64 a1_0, .int .i64 a1_1, .int .i64 a1_2] 52 (0, 0)) (by (with_reducible repeat (first | refine blk_drewN ?_ _ | refine blk_drew ?_ | refine blk_alloc ?_ _)); exact BK484.out) hg (Kd.R_ne HO_10.out BK484.out (by decide))); have n2_ := Aside0.mk (hb); have n3_ := Aside0.mk (ho); clear HO_45; clear BK484; clear HB; clear HO_10; have HO_45 := n0_; have BK484 := n1_; have HB := n2_; have HO506 := n3_; clear n0_ n1_ n2_ n3_; clear ho hb hg hat)); try go_wp2_with (first | ((with_reducible refine gate_builtin (b := .append) (xs := #[.tmp 119, .tmp 121]) rfl ?_); at_builtin; refine Kd.R_append (Kd.int .i64) (w0 := w) w.heap.size rfl (.tmp 119) (.tmp 121) 24 3 (.int .i64 0) 8 rfl Try.underlying24 info3 rfl (by decide) (by omega) u10 x10_2 x15_3 [.int .i64 x15_3] (fun _ => True) (fun _ => False) rfl rfl ?aP (fun _ hk => hk.elim) ?aF ?aO ?aB ?aS ?aL ?_; (case aP => exact rfl); (case aB => exact (by repeat (first | (with_reducible first | exact HB.out | apply below_alloc | apply pw_below_drewN | apply below_drew1 | refine below_set ?_ GE484.out) | exact HB.out))); (case aF => exact (fun _ _ => trivial)); (case aO => exact (by (with_reducible repeat (first | apply Kd.R_alloc | apply Kd.R_drewN | apply Kd.R_drew)); exact HO_10.out)); (case aS => exact (below_size (by repeat (first | (with_reducible first | exact HB.out | apply below_alloc | apply pw_below_drewN | apply below_drew1 | refine below_set ?_ GE484.out) | exact HB.out)))); (case aL => have := LMc51.out; omega); intro v505 w52 ho hb hg hat; rw [← Ny504.out] at ho; have n0_ := Aside0.mk (Kd.N_afterv (ok := (fun k_ => k_ ≠ gb484)) (by (with_reducible repeat (first | apply Kd.N_alloc | apply Kd.N_drewN | apply Kd.N_drew)); exact Kd.N_mono HO_45.out (fun _ hk => ⟨hk.2, hk.1⟩)) hg hat); have n1_ := Aside0.mk (blk_grown (g := gb484) (o := .cells #[.int .i64 a1_0, .int .i64 a1_1, .int .i64 a1_2] 52 (0, 0)) (by (with_reducible repeat (first | refine blk_drewN ?_ _ | refine blk_drew ?_ | refine blk_alloc ?_ _)); exact BK484.out) hg (Kd.R_ne HO_10.out BK484.out (by decide))); have n2_ := Aside0.mk (hb); have n3_ := Aside0.mk (ho); clear HO_45; clear BK484; clear HB; clear HO_10; have HO_45 := n0_; have BK484 := n1_; have HB := n2_; have HO506 := n3_; clear n0_ n1_ n2_ n3_; clear ho hb hg hat)))
                                                  go_roundg k3
                                                  case measure => have := HJ3.out; have := HK2.out; have := HK3.out; omega
                                                  case rel => exact ⟨(y504), (wrap64 (x47_2 + 1)), (by first | rfl | (simp; done) | (simp [*]; done)), H', ⟨by have := HJ3.out; have := HK2.out; have := HK3.out; omega⟩, ⟨by (with_reducible repeat (first | apply Kd.R_alloc | apply Kd.R_drewN | apply Kd.R_drew)); exact HO506.out⟩, ⟨by (with_reducible repeat (first | apply Kd.N_alloc | apply Kd.N_drewN | apply Kd.N_drew)); exact Kd.N_mono HO_45.out (fun _ hk => ⟨hk.2, hk.1⟩)⟩, ⟨by (with_reducible repeat (first | refine blk_drewN ?_ _ | refine blk_drew ?_ | refine blk_alloc ?_ _)); exact BK484.out⟩, ⟨by repeat (first | (with_reducible first | exact HB.out | apply below_alloc | apply pw_below_drewN | apply below_drew1 | refine below_set ?_ GE484.out) | exact HB.out)⟩⟩
                                                · rw [if_neg c51] at H
                                                  exact absurd H (by simp)
                                        · rw [if_neg c34] at H
                                          exact absurd H (by simp)
                                      · rw [if_neg c33] at H
                                        exact absurd H (by simp)
                                    · rw [if_neg c32] at H
                                      exact absurd H (by simp)
                                  · rw [if_neg c31] at H
                                    exact absurd H (by simp)
                                · rw [if_neg c30] at H
                                  exact absurd H (by simp)
                              · rw [if_neg c29] at H
                                exact absurd H (by simp)
                            · rw [if_neg c28] at H
                              exact absurd H (by simp)
                          · rw [if_neg c27] at H
                            exact absurd H (by simp)
                        · rw [if_neg c26] at H
                          exact absurd H (by simp)
                      · rw [if_neg c25] at H
                        exact absurd H (by simp)
                    · rw [if_neg c24] at H
                      have c24b0 : decide (x47_2 < (t489.length : Int)) = false := decide_eq_false c24
                      clear c24
                      simp only [Option.some.injEq, Prod.mk.injEq] at H
                      obtain ⟨rfl, rfl⟩ := H
                      go_wp2
                      repeat (go_quiet (fail); try go_wp2)
                      go_ret2
                      exact ⟨_, by first | rfl | (simp [errW_none, errW_some] <;> rfl) | (simp [*, errW_none, errW_some] <;> rfl), by (with_reducible repeat (first | apply Kd.R_alloc | apply Kd.R_drewN | apply Kd.R_drew)); exact HO_10.out, by repeat (first | (with_reducible first | exact HB.out | apply below_alloc | apply pw_below_drewN | apply below_drew1 | refine below_set ?_ GE484.out) | exact HB.out)⟩
              · rw [if_neg c19] at H
                exact absurd H (by simp)
            · rw [if_neg c18] at H
              exact absurd H (by simp)
          · rw [if_neg c17] at H
            exact absurd H (by simp)
        · rw [if_neg c16] at H
          exact absurd H (by simp)

end Go.Proofs.Ytllnieknogficaa.K
namespace Go.Proofs.Ytllnieknogficaa.K
open Go.RowKit Go.Proofs.YtllnieknogficaaW.PrintWords Go.Proofs.YtllnieknogficaaW.PrintLast Go.Proofs.YtllnieknogficaaW.PrintMore
attribute [local go_sem] max2_int min2_int max_two min_two max_three min_three max_four min_four   -- for this text's walks alone
set_option linter.unusedVariables false
set_option linter.unusedSimpArgs false
/-- A kind unit gift of powers. -/
def kindB (l : List Int) (f t : Int) : Bool := decide (0 ≤ f) && decide (f < (l.length : Int)) && decide (0 ≤ t) && decide (t < (l.length : Int)) && decide (f ≠ t) && decide (rd l t + 2 ≤ rd l f)
theorem kindB_iff (l : List Int) (f t : Int) : kindB l f t = true ↔ 0 ≤ f ∧ f < (l.length : Int) ∧ 0 ≤ t ∧ t < (l.length : Int) ∧ f ≠ t ∧ rd l t + 2 ≤ rd l f := by
  simp [kindB, and_assoc]
theorem pow_rd (l : List Int) (h : powB l = true) (i : Int) : 0 ≤ rd l i ∧ rd l i ≤ 4 := by
  obtain ⟨_, _, h3⟩ := (powB_iff l).1 h
  unfold rd
  rw [List.getD_eq_getElem?_getD]
  by_cases hi : i.toNat < l.length
  · rw [List.getElem?_eq_getElem hi]; exact h3 _ (List.getElem_mem hi)
  · rw [List.getElem?_eq_none (by omega)]; simp
theorem within_eq (n lo hi : Int) : impl_within.f n lo hi = some (decide (lo ≤ n) && decide (n ≤ hi)) := by
  unfold impl_within.f
  by_cases h : lo ≤ n <;> simp [h]
theorem l1In_eq (n lo hi : Int) : spec_l1In.f n lo hi = some (decide (lo ≤ n) && decide (n ≤ hi)) := by
  unfold spec_l1In.f
  by_cases h : lo ≤ n <;> simp [h]
def isB (l : List Int) (f t a : Int) : Bool := decide (0 ≤ f) && decide (f < (l.length : Int)) && decide (0 ≤ t) && decide (t < (l.length : Int)) && decide (f ≠ t) && decide (1 ≤ a)
theorem isB_iff (l : List Int) (f t a : Int) : isB l f t a = true ↔ 0 ≤ f ∧ f < (l.length : Int) ∧ 0 ≤ t ∧ t < (l.length : Int) ∧ f ≠ t ∧ 1 ≤ a := by
  simp [isB, and_assoc]
theorem bool_or (a : Bool) (b c : Bool) (h : b = true ↔ c = true) : b = c := Bool.eq_iff_iff.2 h
theorem isGift_eq (l : List Int) (f t a : Int) (hl : l.length ≤ 1048576) : impl_isGift.f l f t a = some (isB l f t a) := by
  unfold impl_isGift.f
  simp only [within_eq]
  rw [wrap64_id (by omega) (by omega)]
  by_cases c1 : 0 ≤ f ∧ f ≤ (l.length : Int) - 1
  · by_cases c2 : 0 ≤ t ∧ t ≤ (l.length : Int) - 1
    · by_cases c3 : f = t
      · have e : isB l f t a = false := by rw [Bool.eq_false_iff]; intro h; exact ((isB_iff l f t a).1 h).2.2.2.2.1 c3
        rw [e]; simp [c1, c2, c3]
      · have e : isB l f t a = decide (1 ≤ a) := by rw [Bool.eq_iff_iff, isB_iff, decide_eq_true_eq]; exact ⟨fun h => h.2.2.2.2.2, fun h => ⟨c1.1, by omega, c2.1, by omega, c3, h⟩⟩
        rw [e]; simp [c1, c2, c3]
    · have e : isB l f t a = false := by rw [Bool.eq_false_iff]; intro h; have := (isB_iff l f t a).1 h; omega
      have e2 : (decide (0 ≤ t) && decide (t ≤ (l.length : Int) - 1)) = false := by rw [Bool.eq_false_iff]; intro h; rw [Bool.and_eq_true, decide_eq_true_eq, decide_eq_true_eq] at h; exact c2 h
      rw [e, e2]; simp [c1]
  · have e : isB l f t a = false := by rw [Bool.eq_false_iff]; intro h; have := (isB_iff l f t a).1 h; omega
    have e2 : (decide (0 ≤ f) && decide (f ≤ (l.length : Int) - 1)) = false := by rw [Bool.eq_false_iff]; intro h; rw [Bool.and_eq_true, decide_eq_true_eq, decide_eq_true_eq] at h; exact c1 h
    rw [e, e2]; simp
theorem giIs_eq (l : List Int) (f t a : Int) (hl : l.length ≤ 1048576) : spec_giIs.f l f t a = some (isB l f t a) := by
  rw [← isGift_eq l f t a hl]
  unfold spec_giIs.f impl_isGift.f
  simp only [within_eq, l1In_eq]
/-- A kind gift. -/
def kinB (l : List Int) (f t a : Int) : Bool := isB l f t a && (decide (a ≤ rd l f) && (decide (a ≤ 60 - rd l t) && decide (rd l t + a ≤ rd l f - a)))
theorem isKind_of (l : List Int) (f t a : Int) (hl : l.length ≤ 1048576) (hf : 0 ≤ rd l f ∧ rd l f ≤ 60) (ht : 0 ≤ rd l t ∧ rd l t ≤ 60) : impl_isKind.f l f t a = some (kinB l f t a) := by
  unfold impl_isKind.f impl_canGive.f kinB
  rw [isGift_eq l f t a hl]
  cases h : isB l f t a with
  | false => simp
  | true =>
    obtain ⟨h1, h2, h3, h4, h5, h6⟩ := (isB_iff l f t a).1 h
    rw [wrap64_id (x := 60 - rd l t) (by omega) (by omega)]
    simp only [Option.bind_some, if_true, if_pos h1, if_pos h2, if_pos h3, if_pos h4, Bool.true_and]
    by_cases c1 : a ≤ rd l f
    · rw [wrap64_id (x := rd l f - a) (by omega) (by omega), wrap64_id (x := rd l t + a) (by omega) (by omega)]
      by_cases c2 : a ≤ 60 - rd l t <;> simp [c1, c2]
    · simp [c1]
theorem giKind_of (l : List Int) (f t a : Int) (hl : l.length ≤ 1048576) (hf : 0 ≤ rd l f ∧ rd l f ≤ 60) (ht : 0 ≤ rd l t ∧ rd l t ≤ 60) : spec_giKind.f l f t a = some (kinB l f t a) := by
  unfold spec_giKind.f kinB
  rw [giIs_eq l f t a hl]
  cases h : isB l f t a with
  | false => simp
  | true =>
    obtain ⟨h1, h2, h3, h4, h5, h6⟩ := (isB_iff l f t a).1 h
    simp only [Option.bind_some, if_true, if_pos h1, if_pos h2, if_pos h3, if_pos h4, Bool.true_and]
    by_cases c1 : a ≤ 60
    · rw [wrap64_id (x := rd l f - a) (by omega) (by omega), wrap64_id (x := rd l t + a) (by omega) (by omega)]
      rw [if_pos c1]
      congr 1
      rw [Bool.eq_iff_iff]
      simp only [Bool.and_eq_true, decide_eq_true_eq]
      omega
    · rw [if_neg c1]
      have : decide (a ≤ rd l f) = false := decide_eq_false (by omega)
      rw [this, Bool.false_and]
theorem powsm (l : List Int) (h : powB l = true) (i : Nat) : l.getD i 0 ≤ 4 := by
  have := pow_rd l h (i : Int)
  rw [rd_nat_getD] at this
  exact this.2
theorem giftS_l1 (ps x : List Int) (hp : powB ps = true) (p q : Int) (ts : List Int) (O : List (List Int)) (m z : Int) (f t : Nat) (a : Int) (o : List Int) (ho : o.length = ps.length) (hoi : ∀ i ∈ o, 0 ≤ i ∧ i < (x.length : Int)) (b : Int) (hts : ts.length < 17592186044416) (r : List Int × Bool)
    (hnext : Ev (fun k => spec_GiftTerms.l0 k ps x p q (ts ++ [gfrom ps (o.map (pick x)) f t b o.length]) O m (wrap64 (z + 1)) (f : Int) (t : Int) a) r) : ∀ d (j : Nat), j ≤ o.length → o.length - j = d →
    Ev (fun k => spec_GiftTerms.l1 k ps x p q ts (gfrom ps (o.map (pick x)) f t b j) O m z o (o.length : Int) (j : Int) (f : Int) (t : Int) a) r := by
  have hl4 := ((powB_iff ps).1 hp).2.1
  intro d
  induction d with
  | zero =>
    intro j hj hd
    have : j = o.length := by omega
    subst this
    refine ev_succ ?_
    simp only [spec_GiftTerms.l1, if_neg (Int.lt_irrefl _), if_pos hts]
    exact hnext
  | succ d ih =>
    intro j hj hd
    have hlt : j < o.length := by omega
    have ih' := ih (j + 1) (by omega) (by omega)
    have h1 : (j : Int) < (o.length : Int) := by omega
    have h2 : (0 : Int) ≤ (j : Int) := by omega
    have h3 : (j : Int) < (ps.length : Int) := by omega
    have h4 := hoi o[j] (List.getElem_mem hlt)
    refine ev_succ ?_
    simp only [spec_GiftTerms.l1, if_pos h1, if_pos h2, wrap64_nat_succ (show j < 9223372036854775807 by omega), rd_nat o j hlt, if_pos h3, if_pos h4.1, if_pos h4.2]
    rw [gfrom_succ] at ih'
    by_cases c1 : j = f
    · simp only [if_pos (show (j : Int) = (f : Int) by omega)]
      rw [if_neg (fun h => h.1 c1)] at ih'
      exact ih'
    · simp only [if_neg (show ¬ (j : Int) = (f : Int) by omega)]
      by_cases c2 : j = t
      · simp only [if_pos (show (j : Int) = (t : Int) by omega)]
        rw [if_neg (fun h => h.2 c2)] at ih'
        exact ih'
      · simp only [if_neg (show ¬ (j : Int) = (t : Int) by omega)]
        rw [if_pos ⟨c1, c2⟩] at ih'
        have e1 : (o.map (pick x)).getD j 0 = rd x o[j] := by
          rw [List.getD_eq_getElem?_getD, List.getElem?_map, List.getElem?_eq_getElem hlt]; rfl
        rw [e1] at ih'
        rw [rd_nat_getD]
        exact Ev.bind (syPower_ev _ _ (by have := powsm ps hp j; omega)) ih'
theorem giftS_l0 (ps x : List Int) (hp : powB ps = true) (hx : ps.length = x.length) (f t : Nat) (hf : f < ps.length) (ht : t < ps.length) (a : Int) (O : List (List Int)) (hO : O.length ≤ 24) (hOo : ∀ o ∈ O, o.length = x.length ∧ ∀ i ∈ o, 0 ≤ i ∧ i < (x.length : Int)) : ∀ d (i : Nat), i ≤ O.length → O.length - i = d →
    Ev (fun k => spec_GiftTerms.l0 k ps x (ps.getD f 0) (ps.getD t 0) ((O.take i).map fun o => gterm ps f t (o.map (pick x))) O (O.length : Int) (i : Int) (f : Int) (t : Int) a) (O.map (fun o => gterm ps f t (o.map (pick x))), true) := by
  intro d
  induction d with
  | zero =>
    intro i hi hd
    have : i = O.length := by omega
    subst this
    refine ev_succ ?_
    simp only [spec_GiftTerms.l0, if_neg (Int.lt_irrefl _), List.take_length]
    exact ev_now _ _ rfl
  | succ d ih =>
    intro i hi hd
    have hlt : i < O.length := by omega
    have h1 : (i : Int) < (O.length : Int) := by omega
    have h2 : (0 : Int) ≤ (i : Int) := by omega
    obtain ⟨ho, hoi⟩ := hOo O[i] (List.getElem_mem hlt)
    have hfo : f < O[i].length := by omega
    have hto : t < O[i].length := by omega
    have b1 := hoi O[i][f] (List.getElem_mem hfo)
    have b2 := hoi O[i][t] (List.getElem_mem hto)
    have sf := powsm ps hp f
    have st := powsm ps hp t
    have pf : 0 ≤ ps.getD f 0 := by have := (pow_rd ps hp (f : Int)).1; rwa [rd_nat_getD] at this
    have pt : 0 ≤ ps.getD t 0 := by have := (pow_rd ps hp (t : Int)).1; rwa [rd_nat_getD] at this
    have hd1 : wrap64 (wrap64 (ps.getD f 0 - ps.getD t 0) - 1) ≤ 4611686018427387904 := by rw [wrap64_id (x := ps.getD f 0 - ps.getD t 0) (by omega) (by omega), wrap64_id (by omega) (by omega)]; omega
    have e1 : ∀ j (hj : j < O[i].length), (O[i].map (pick x)).getD j 0 = rd x O[i][j] := fun j hj => by
      rw [List.getD_eq_getElem?_getD, List.getElem?_map, List.getElem?_eq_getElem hj]; rfl
    have ih' := ih (i + 1) (by omega) (by omega)
    rw [List.take_succ_eq_append_getElem hlt, List.map_append] at ih'
    refine ev_succ ?_
    simp only [spec_GiftTerms.l0, if_pos h1, if_pos h2, rdL_nat O i hlt, if_pos (show (0 : Int) ≤ (f : Int) by omega), if_pos (show (0 : Int) ≤ (t : Int) by omega), if_pos (show (f : Int) < (O[i].length : Int) by omega), if_pos (show (t : Int) < (O[i].length : Int) by omega), rd_nat _ f hfo, rd_nat _ t hto, if_pos b1.1, if_pos b1.2, if_pos b2.1, if_pos b2.2]
    refine Ev.bind (syPower_ev _ _ (by omega)) ?_
    refine Ev.bind (syPower_ev _ _ hd1) ?_
    refine Ev.bind (syPower_ev _ _ hd1) ?_
    refine giftS_l1 ps x hp _ _ _ O _ _ f t a O[i] (by omega) hoi (gbase (ps.getD f 0) (ps.getD t 0) (rd x O[i][f]) (rd x O[i][t])) (by rw [List.length_map, List.length_take]; omega) _ ?_ O[i].length 0 (by omega) (by omega)
    rw [wrap64_nat_succ (show i < 9223372036854775807 by omega)]
    have e2 : gfrom ps (O[i].map (pick x)) f t (gbase (ps.getD f 0) (ps.getD t 0) (rd x O[i][f]) (rd x O[i][t])) O[i].length = gterm ps f t (O[i].map (pick x)) := by
      unfold gterm
      rw [e1 f hfo, e1 t hto, List.length_map]
    rw [e2]
    exact ih'
/-- What a gift's terms come to. -/
def giftR (ps : List Int) (g0 g1 g2 : Int) (x : List Int) : List Int × Bool :=
  if givB ps x = true ∧ g2 = 1 ∧ kinB ps g0 g1 g2 = true then ((idxs x.length).map (fun o => gterm ps g0.toNat g1.toNat (o.map (pick x))), true) else ([], false)
theorem pow60 (ps : List Int) (hp : powB ps = true) (i : Int) : 0 ≤ rd ps i ∧ rd ps i ≤ 60 := by have := pow_rd ps hp i; omega
theorem kin_facts (ps : List Int) (g0 g1 g2 : Int) (h : kinB ps g0 g1 g2 = true) : ∃ f t : Nat, g0 = f ∧ g1 = t ∧ f < ps.length ∧ t < ps.length ∧ f ≠ t ∧ 1 ≤ g2 ∧ rd ps g1 + g2 ≤ rd ps g0 - g2 ∧ g2 ≤ 60 - rd ps g1 := by
  unfold kinB at h
  simp only [Bool.and_eq_true, decide_eq_true_eq] at h
  obtain ⟨h1, h2, h3, h4⟩ := h
  obtain ⟨k1, k2, k3, k4, k5, k6⟩ := (isB_iff ps g0 g1 g2).1 h1
  exact ⟨g0.toNat, g1.toNat, by omega, by omega, by omega, by omega, by omega, k6, h4, h3⟩
theorem specGift_ev (ps : List Int) (g0 g1 g2 : Int) (x : List Int) (hps : ps.length ≤ 1048576) (hx : x.length ≤ 1048576) : Ev (fun k => spec_GiftTerms.f k ps g0 g1 g2 x) (giftR ps g0 g1 g2 x) := by
  unfold spec_GiftTerms.f
  refine Ev.bind (syGiven_ev ps x (by omega) (by omega)) ?_
  cases hg : givB ps x with
  | false =>
    have e : giftR ps g0 g1 g2 x = ([], false) := by unfold giftR; rw [if_neg (by rw [hg]; simp)]
    rw [e]
    simp only [Bool.false_eq_true, if_false]
    refine ev_succ ?_
    simp only [spec_GiftTerms.j0, if_true]
    exact ev_now _ _ rfl
  | true =>
    obtain ⟨hp, ha, hl⟩ := (givB_iff ps x).1 hg
    obtain ⟨p1, p4, _⟩ := (powB_iff ps).1 hp
    simp only [if_true]
    rw [giKind_of ps g0 g1 g2 hps (pow60 ps hp g0) (pow60 ps hp g1)]
    simp only [Option.bind_some]
    cases hk : kinB ps g0 g1 g2 with
    | false =>
      have e : giftR ps g0 g1 g2 x = ([], false) := by unfold giftR; rw [if_neg (by rw [hk]; simp)]
      rw [e]
      simp only [Bool.false_eq_true, if_false]
      refine ev_succ ?_
      simp only [spec_GiftTerms.j0, if_true]
      exact ev_now _ _ rfl
    | true =>
      simp only [if_true]
      by_cases h2 : g2 = 1
      · subst h2
        obtain ⟨f, t, rfl, rfl, hf, ht, hne, _, _⟩ := kin_facts ps g0 g1 1 hk
        have e : giftR ps f t 1 x = ((idxs x.length).map (fun o => gterm ps f t (o.map (pick x))), true) := by unfold giftR; rw [if_pos ⟨hg, rfl, hk⟩, Int.toNat_natCast, Int.toNat_natCast]
        rw [e]
        have n1 : ((1 : Int) != 1) = false := by decide
        rw [n1]
        obtain ⟨o1, o2⟩ := idxs_facts x.length (by omega) (by omega)
        refine ev_succ ?_
        simp only [spec_GiftTerms.j0, Bool.false_eq_true, if_false, if_pos (show (0 : Int) ≤ (f : Int) by omega), if_pos (show (0 : Int) ≤ (t : Int) by omega), if_pos (show (f : Int) < (ps.length : Int) by omega), if_pos (show (t : Int) < (ps.length : Int) by omega), rd_nat_getD]
        refine Ev.bind (syOrders_ev x.length (by omega) (by omega)) ?_
        have h := giftS_l0 ps x hp hl f t hf ht 1 (idxs x.length) o1 o2 (idxs x.length).length 0 (by omega) (by omega)
        rw [List.take_zero, List.map_nil] at h
        exact h
      · have e : giftR ps g0 g1 g2 x = ([], false) := by unfold giftR; rw [if_neg (by simp [h2])]
        rw [e]
        have n1 : (g2 != 1) = true := by simp; exact h2
        rw [n1]
        refine ev_succ ?_
        simp only [spec_GiftTerms.j0, if_true]
        exact ev_now _ _ rfl
theorem implGift_ev (ps : List Int) (g0 g1 g2 : Int) (x : List Int) (hps : ps.length ≤ 1048576) (hx : x.length ≤ 1048576) : Ev (fun k => impl_GiftTerms.f k ps g0 g1 g2 x) (giftR ps g0 g1 g2 x) := by
  unfold impl_GiftTerms.f
  have hbad : Ev (fun k => impl_GiftTerms.bad k ps g0 g1 g2 x) (!decide (givB ps x = true ∧ g2 = 1 ∧ kinB ps g0 g1 g2 = true)) := by
    unfold impl_GiftTerms.bad
    refine Ev.bind (arePowers_ev ps (by omega)) ?_
    cases hp : powB ps with
    | false =>
      simp only [Bool.false_eq_true, if_false]
      refine ev_now _ _ ?_
      rw [decide_eq_false (fun h => by have := ((givB_iff ps x).1 h.1).1; rw [hp] at this; cases this)]; rfl
    | true =>
      simp only [if_true]
      refine Ev.bind (areArguments_ev x (by omega)) ?_
      cases ha : argB x with
      | false =>
        simp only [Bool.false_eq_true, if_false]
        refine ev_now _ _ ?_
        rw [decide_eq_false (fun h => by have := ((givB_iff ps x).1 h.1).2.1; rw [ha] at this; cases this)]; rfl
      | true =>
        simp only [if_true]
        by_cases hl : ps.length = x.length
        · simp only [if_pos hl]
          have hg : givB ps x = true := (givB_iff ps x).2 ⟨hp, ha, hl⟩
          by_cases h2 : g2 = 1
          · simp only [if_pos h2]
            rw [isKind_of ps g0 g1 g2 hps (pow60 ps hp g0) (pow60 ps hp g1)]
            refine ev_now _ _ ?_
            congr 1
            rw [Bool.eq_iff_iff]; simp [hg, h2]
          · simp only [if_neg h2]
            refine ev_now _ _ ?_
            rw [decide_eq_false (fun h => h2 h.2.1)]; rfl
        · simp only [if_neg hl]
          refine ev_now _ _ ?_
          rw [decide_eq_false (fun h => hl ((givB_iff ps x).1 h.1).2.2)]; rfl
  refine Ev.bind hbad ?_
  by_cases hc : givB ps x = true ∧ g2 = 1 ∧ kinB ps g0 g1 g2 = true
  · rw [decide_eq_true hc]
    obtain ⟨hg, h2, hk⟩ := hc
    subst h2
    obtain ⟨hp, ha, hl⟩ := (givB_iff ps x).1 hg
    obtain ⟨p1, p4, p5⟩ := (powB_iff ps).1 hp
    obtain ⟨f, t, rfl, rfl, hf, ht, hne, _, _⟩ := kin_facts ps g0 g1 1 hk
    obtain ⟨o1, o2⟩ := idxs_facts x.length (by omega) (by omega)
    have hok : impl_GiftTerms.ok ps f t x := ⟨by omega, by omega, by omega, by omega, hl, by omega, fun y hy => by have := p5 y hy; omega, by rw [exts_idxs, List.length_map]; omega⟩
    have e : giftR ps f t 1 x = ((idxs x.length).map (fun o => gterm ps f t (o.map (pick x))), true) := by unfold giftR; rw [if_pos ⟨hg, rfl, hk⟩, Int.toNat_natCast, Int.toNat_natCast]
    simp only [Bool.not_true, Bool.false_eq_true, if_false, if_pos hok]
    refine ev_now _ _ ?_
    rw [e, exts_idxs, Int.toNat_natCast, Int.toNat_natCast, List.map_map]; rfl
  · rw [decide_eq_false hc]
    simp only [Bool.not_false, if_true]
    refine ev_now _ _ ?_
    unfold giftR
    rw [if_neg hc]
theorem giftR_small (ps : List Int) (g0 g1 g2 : Int) (x : List Int) : (giftR ps g0 g1 g2 x).1.length ≤ 24 := by
  unfold giftR
  split
  · rename_i h
    obtain ⟨hp, ha, hl⟩ := (givB_iff ps x).1 h.1
    obtain ⟨p1, p4, p5⟩ := (powB_iff ps).1 hp
    rw [List.length_map]
    exact (idxs_facts x.length (by omega) (by omega)).1
  · simp
theorem GiftTerms_pure (ps : List Int) (g0 g1 g2 : Int) (x : List Int) (h0 : ps.length ≤ 1048576) (_ : ∀ y ∈ ps, (Lit.int .i64 y).wf = true) (_ : (Lit.int .i64 g0).wf = true) (_ : (Lit.int .i64 g1).wf = true) (_ : (Lit.int .i64 g2).wf = true) (h1 : x.length ≤ 1048576) (_ : ∀ y ∈ x, (Lit.int .i64 y).wf = true) :
    ∃ (R : List Int) (b : Bool), Ev (fun k => spec_GiftTerms.f k ps g0 g1 g2 x) (R, b) ∧ Ev (fun k => impl_GiftTerms.f k ps g0 g1 g2 x) (R, b) ∧ R.length ≤ 1048576 :=
  ⟨(giftR ps g0 g1 g2 x).1, (giftR ps g0 g1 g2 x).2, specGift_ev ps g0 g1 g2 x h0 h1, implGift_ev ps g0 g1 g2 x h0 h1, by have := giftR_small ps g0 g1 g2 x; omega⟩
end Go.Proofs.Ytllnieknogficaa.K
namespace Go.Proofs.Ytllnieknogficaa.K
open Go.RowKit Go.Proofs.YtllnieknogficaaW.PrintWords Go.Proofs.YtllnieknogficaaW.PrintLast Go.Proofs.YtllnieknogficaaW.PrintMore
attribute [local go_sem] max2_int min2_int max_two min_two max_three min_three max_four min_four   -- for this text's walks alone
set_option linter.unusedVariables false
set_option linter.unusedSimpArgs false

/-! ### laws_eqIntS: function 45 -/
def laws_eqIntS.l0 : Nat → List Int → List Int → Int → Option (Bool)
  | 0, _, _, _ => none
  | k + 1, x0, x1, x5 => if x5 < (x0.length : Int) then (if 0 ≤ x5 then (if x5 < (x1.length : Int) then (if (rd x0 x5) = (rd x1 x5) then (laws_eqIntS.l0 k x0 x1 (wrap64 (x5 + 1))) else (some false)) else (none)) else (none)) else (some true)
def laws_eqIntS.f (k : Nat) (l0 : List Int) (l1 : List Int) : Option (Bool) := if (l0.length : Int) = (l1.length : Int) then (laws_eqIntS.l0 k l0 l1 0) else (some false)
theorem laws_eqIntS.mono_l : ∀ k, (∀ y0 y1 y2, LeO (laws_eqIntS.l0 k y0 y1 y2) (laws_eqIntS.l0 (k + 1) y0 y1 y2))
  | 0 => fun _ _ _ r h => by simp [laws_eqIntS.l0] at h
  | k + 1 => by
    have ih0 := laws_eqIntS.mono_l k
    · intro y0 y1 y2
      unfold laws_eqIntS.l0
      repeat' first
      | (with_reducible exact ih0 _ _ _)
      | (with_reducible exact LeO.refl _)
      | (with_reducible exact LeO.none _)
      | (with_reducible refine LeO.ite ?_ ?_)
      | (with_reducible refine LeO.bind ?_ (fun _ => ?_))
      | exact ih0 _ _ _
      | exact LeO.none _
      | refine LeO.ite ?_ ?_
      | refine LeO.bind ?_ (fun _ => ?_)
theorem laws_eqIntS.mono : ∀ a0 a1 k, LeO (laws_eqIntS.f k a0 a1) (laws_eqIntS.f (k + 1) a0 a1) := by
  intro a0 a1 k
  have ih0 := laws_eqIntS.mono_l k
  unfold laws_eqIntS.f
  repeat' first
      | (with_reducible exact ih0 _ _ _)
      | (with_reducible exact LeO.refl _)
      | (with_reducible exact LeO.none _)
      | (with_reducible refine LeO.ite ?_ ?_)
      | (with_reducible refine LeO.bind ?_ (fun _ => ?_))
      | exact ih0 _ _ _
      | exact LeO.none _
      | refine LeO.ite ?_ ?_
      | refine LeO.bind ?_ (fun _ => ?_)
set_option maxHeartbeats 8000000 in
set_option maxRecDepth 100000 in
theorem laws_eqIntS.calls (k : Nat) (A0 : Option Addr) (c0 : Nat) (l0 : List Int) (A1 : Option Addr) (c1 : Nat) (l1 : List Int) (r : Bool) (w : World) (hr0 : Kd.C (Kd.int .i64) w A0 l0.length l0) (hc0 : l0.length ≤ c0) (hr1 : Kd.C (Kd.int .i64) w A1 l1.length l1) (hc1 : l1.length ≤ c1) (h : laws_eqIntS.f k l0 l1 = some r) :
    Calls Try.prog 45 #[.slice A0 l0.length c0, .slice A1 l1.length c1] w fun e w' => e = .returned (.bool r) ∧ Drawn0 w w' := by
  have HR0 := Aside0.mk hr0
  have HC0 := Aside0.mk hc0
  clear hr0 hc0
  have HR1 := Aside0.mk hr1
  have HC1 := Aside0.mk hc1
  clear hr1 hc1
  have H : (if (l0.length : Int) = (l1.length : Int) then (laws_eqIntS.l0 k l0 l1 0) else (some false)) = some r := h
  clear h
  by_cases c3 : (l0.length : Int) = (l1.length : Int)
  · rw [if_pos c3] at H
    have c3b0 : ((l0.length : Int) == (l1.length : Int)) = true := beq_iff_eq.mpr c3
    have c3b1 : ((l0.length : Int) != (l1.length : Int)) = false := bne_eq_false_iff_eq.mpr c3
    have c3b2 : (l0.length == l1.length) = true := by first | simpa using c3 | (simp at c3 ⊢; omega)
    clear c3
    have H' := Aside0.mk H
    clear H
    go_enter Try.func45, Try.ntmps45
    go_wp2
    repeat (go_quiet (fail); try go_wp2)
    go_loopg [5] k (fun kq v5 w' => ∃ (x5_1 : Int), v5 = .int .i64 x5_1 ∧ Aside0 (laws_eqIntS.l0 kq l0 l1 x5_1 = some r) ∧ Aside0 (kq ≤ k) ∧ Drawn0 w w')
    case atStart => exact ⟨(0), (by first | rfl | (simp; done) | (simp [*]; done)), H', ⟨Nat.le_refl _⟩, by repeat (first | exact Drawn0.refl _ | apply Drawn0.step)⟩
    case round =>
      clear H'
      try clear c1
      try clear p2
      try clear c3
      try clear c3b0
      try clear c3b1
      try clear c3b2
      obtain ⟨x5_1, rfl, HA, HK1, ⟨m1, rfl⟩⟩ := hrel
      cases gk with
      | zero => exact absurd HA.out (by simp [laws_eqIntS.l0])
      | succ k1 =>
        have H := HA.out
        clear HA
        simp only [laws_eqIntS.l0] at H
        by_cases c4 : x5_1 < (l0.length : Int)
        · rw [if_pos c4] at H
          have c4b0 : decide (x5_1 < (l0.length : Int)) = true := decide_eq_true c4
          clear c4
          by_cases c5 : 0 ≤ x5_1
          · rw [if_pos c5] at H
            have c5b0 : decide (0 ≤ x5_1) = true := decide_eq_true c5
            clear c5
            by_cases c6 : x5_1 < (l1.length : Int)
            · rw [if_pos c6] at H
              have c6b0 : decide (x5_1 < (l1.length : Int)) = true := decide_eq_true c6
              clear c6
              by_cases c7 : (rd l0 x5_1) = (rd l1 x5_1)
              · rw [if_pos c7] at H
                have c7b0 : ((rd l0 x5_1) == (rd l1 x5_1)) = true := beq_iff_eq.mpr c7
                have c7b1 : ((rd l0 x5_1) != (rd l1 x5_1)) = false := bne_eq_false_iff_eq.mpr c7
                clear c7
                have H' := Aside0.mk H
                clear H
                have p425 : 0 ≤ (x5_1 : Int) := of_decide_eq_true (by first | (with_reducible assumption) | assumption)
                have q425 : x5_1 < (l0.length : Int) := of_decide_eq_true (by first | (with_reducible assumption) | assumption)
                obtain ⟨ad425, e425, hx425_0⟩ := Kd.at_int HR0.out x5_1 p425 q425
                cases e425
                replace p425 := eq_true p425
                replace q425 := eq_true q425
                have p426 : 0 ≤ (x5_1 : Int) := of_decide_eq_true (by first | (with_reducible assumption) | assumption)
                have q426 : x5_1 < (l1.length : Int) := of_decide_eq_true (by first | (with_reducible assumption) | assumption)
                obtain ⟨ad426, e426, hx426_0⟩ := Kd.at_int HR1.out x5_1 p426 q426
                cases e426
                replace p426 := eq_true p426
                replace q426 := eq_true q426
                go_wp2
                repeat (go_quiet (fail); try go_wp2)
                go_roundg k1
                case measure => have := HK1.out; omega
                case rel => exact ⟨(wrap64 (x5_1 + 1)), (by first | rfl | (simp; done) | (simp [*]; done)), H', ⟨by have := HK1.out; omega⟩, by repeat (first | exact Drawn0.refl _ | apply Drawn0.step)⟩
              · rw [if_neg c7] at H
                have c7b0 : ((rd l0 x5_1) == (rd l1 x5_1)) = false := beq_eq_false_iff_ne.mpr c7
                have c7b1 : ((rd l0 x5_1) != (rd l1 x5_1)) = true := bne_iff_ne.mpr c7
                obtain rfl := Option.some.inj H
                have p425 : 0 ≤ (x5_1 : Int) := of_decide_eq_true (by first | (with_reducible assumption) | assumption)
                have q425 : x5_1 < (l0.length : Int) := of_decide_eq_true (by first | (with_reducible assumption) | assumption)
                obtain ⟨ad425, e425, hx425_0⟩ := Kd.at_int HR0.out x5_1 p425 q425
                cases e425
                replace p425 := eq_true p425
                replace q425 := eq_true q425
                have p426 : 0 ≤ (x5_1 : Int) := of_decide_eq_true (by first | (with_reducible assumption) | assumption)
                have q426 : x5_1 < (l1.length : Int) := of_decide_eq_true (by first | (with_reducible assumption) | assumption)
                obtain ⟨ad426, e426, hx426_0⟩ := Kd.at_int HR1.out x5_1 p426 q426
                cases e426
                replace p426 := eq_true p426
                replace q426 := eq_true q426
                go_wp2
                repeat (go_quiet (fail); try go_wp2)
                go_ret
                exact ⟨by first | rfl | (simp; done) | (simp [*]; done), by repeat (first | exact Drawn0.refl _ | apply Drawn0.step)⟩
            · rw [if_neg c6] at H
              exact absurd H (by simp)
          · rw [if_neg c5] at H
            exact absurd H (by simp)
        · rw [if_neg c4] at H
          have c4b0 : decide (x5_1 < (l0.length : Int)) = false := decide_eq_false c4
          clear c4
          obtain rfl := Option.some.inj H
          go_wp2
          repeat (go_quiet (fail); try go_wp2)
          go_ret
          exact ⟨by first | rfl | (simp; done) | (simp [*]; done), by repeat (first | exact Drawn0.refl _ | apply Drawn0.step)⟩
  · rw [if_neg c3] at H
    have c3b0 : ((l0.length : Int) == (l1.length : Int)) = false := beq_eq_false_iff_ne.mpr c3
    have c3b1 : ((l0.length : Int) != (l1.length : Int)) = true := bne_iff_ne.mpr c3
    have c3b2 : (l0.length == l1.length) = false := by first | simpa using c3 | (simp at c3 ⊢; omega)
    obtain rfl := Option.some.inj H
    go_enter Try.func45, Try.ntmps45
    go_wp2
    repeat (go_quiet (fail); try go_wp2)
    go_ret
    exact ⟨by first | rfl | (simp; done) | (simp [*]; done), by repeat (first | exact Drawn0.refl _ | apply Drawn0.step)⟩

end Go.Proofs.Ytllnieknogficaa.K
namespace Go.Proofs.Ytllnieknogficaa.K
open Go.RowKit Go.Proofs.YtllnieknogficaaW.PrintWords Go.Proofs.YtllnieknogficaaW.PrintLast Go.Proofs.YtllnieknogficaaW.PrintMore
attribute [local go_sem] max2_int min2_int max_two min_two max_three min_three max_four min_four   -- for this text's walks alone
set_option linter.unusedVariables false
set_option linter.unusedSimpArgs false

/-! ### laws_heldIntS: function 47 -/
def laws_heldIntS.l0 : Nat → List Int → Int → Int → Option (Int)
  | 0, _, _, _ => none
  | k + 1, x0, x1, x5 => if x5 < (x0.length : Int) then (if 0 ≤ x5 then (if (rd x0 x5) = x1 then (laws_heldIntS.l0 k x0 (wrap64 (x1 + 1)) (wrap64 (x5 + 1))) else (some (-1))) else (none)) else (some x1)
def laws_heldIntS.f (k : Nat) (l0 : List Int) (a1 : Int) : Option (Int) := laws_heldIntS.l0 k l0 a1 0
theorem laws_heldIntS.mono_l : ∀ k, (∀ y0 y1 y2, LeO (laws_heldIntS.l0 k y0 y1 y2) (laws_heldIntS.l0 (k + 1) y0 y1 y2))
  | 0 => fun _ _ _ r h => by simp [laws_heldIntS.l0] at h
  | k + 1 => by
    have ih0 := laws_heldIntS.mono_l k
    · intro y0 y1 y2
      unfold laws_heldIntS.l0
      repeat' first
      | (with_reducible exact ih0 _ _ _)
      | (with_reducible exact LeO.refl _)
      | (with_reducible exact LeO.none _)
      | (with_reducible refine LeO.ite ?_ ?_)
      | (with_reducible refine LeO.bind ?_ (fun _ => ?_))
      | exact ih0 _ _ _
      | exact LeO.none _
      | refine LeO.ite ?_ ?_
      | refine LeO.bind ?_ (fun _ => ?_)
theorem laws_heldIntS.mono : ∀ a0 a1 k, LeO (laws_heldIntS.f k a0 a1) (laws_heldIntS.f (k + 1) a0 a1) := by
  intro a0 a1 k
  have ih0 := laws_heldIntS.mono_l k
  unfold laws_heldIntS.f
  repeat' first
      | (with_reducible exact ih0 _ _ _)
      | (with_reducible exact LeO.refl _)
      | (with_reducible exact LeO.none _)
      | (with_reducible refine LeO.ite ?_ ?_)
      | (with_reducible refine LeO.bind ?_ (fun _ => ?_))
      | exact ih0 _ _ _
      | exact LeO.none _
      | refine LeO.ite ?_ ?_
      | refine LeO.bind ?_ (fun _ => ?_)
set_option maxHeartbeats 8000000 in
set_option maxRecDepth 100000 in
theorem laws_heldIntS.calls (k : Nat) (A0 : Option Addr) (c0 : Nat) (l0 : List Int) (a1 : Int) (r : Int) (w : World) (hr0 : Kd.C (Kd.int .i64) w A0 l0.length l0) (hc0 : l0.length ≤ c0) (h : laws_heldIntS.f k l0 a1 = some r) :
    Calls Try.prog 47 #[.slice A0 l0.length c0, .int .i64 a1] w fun e w' => e = .returned (.int .i64 r) ∧ Drawn0 w w' := by
  have HR0 := Aside0.mk hr0
  have HC0 := Aside0.mk hc0
  clear hr0 hc0
  have H : (laws_heldIntS.l0 k l0 a1 0) = some r := h
  clear h
  have H' := Aside0.mk H
  clear H
  go_enter Try.func47, Try.ntmps47
  go_wp2
  go_loopg [1, 5] k (fun kq v1 v5 w' => ∃ (x1_1 : Int) (x5_1 : Int), v1 = .int .i64 x1_1 ∧ v5 = .int .i64 x5_1 ∧ Aside0 (laws_heldIntS.l0 kq l0 x1_1 x5_1 = some r) ∧ Aside0 (kq ≤ k) ∧ Drawn0 w w')
  case atStart => exact ⟨(a1), (0), (by first | rfl | (simp; done) | (simp [*]; done)), (by first | rfl | (simp; done) | (simp [*]; done)), H', ⟨Nat.le_refl _⟩, by repeat (first | exact Drawn0.refl _ | apply Drawn0.step)⟩
  case round =>
    clear H'
    try clear p2
    obtain ⟨x1_1, x5_1, rfl, rfl, HA, HK1, ⟨m1, rfl⟩⟩ := hrel
    cases gk with
    | zero => exact absurd HA.out (by simp [laws_heldIntS.l0])
    | succ k1 =>
      have H := HA.out
      clear HA
      simp only [laws_heldIntS.l0] at H
      by_cases c3 : x5_1 < (l0.length : Int)
      · rw [if_pos c3] at H
        have c3b0 : decide (x5_1 < (l0.length : Int)) = true := decide_eq_true c3
        clear c3
        by_cases c4 : 0 ≤ x5_1
        · rw [if_pos c4] at H
          have c4b0 : decide (0 ≤ x5_1) = true := decide_eq_true c4
          clear c4
          by_cases c5 : (rd l0 x5_1) = x1_1
          · rw [if_pos c5] at H
            have c5b0 : ((rd l0 x5_1) == x1_1) = true := beq_iff_eq.mpr c5
            have c5b1 : ((rd l0 x5_1) != x1_1) = false := bne_eq_false_iff_eq.mpr c5
            clear c5
            have H' := Aside0.mk H
            clear H
            have p431 : 0 ≤ (x5_1 : Int) := of_decide_eq_true (by first | (with_reducible assumption) | assumption)
            have q431 : x5_1 < (l0.length : Int) := of_decide_eq_true (by first | (with_reducible assumption) | assumption)
            obtain ⟨ad431, e431, hx431_0⟩ := Kd.at_int HR0.out x5_1 p431 q431
            cases e431
            replace p431 := eq_true p431
            replace q431 := eq_true q431
            go_wp2
            go_roundg k1
            case measure => have := HK1.out; omega
            case rel => exact ⟨(wrap64 (x1_1 + 1)), (wrap64 (x5_1 + 1)), (by first | rfl | (simp; done) | (simp [*]; done)), (by first | rfl | (simp; done) | (simp [*]; done)), H', ⟨by have := HK1.out; omega⟩, by repeat (first | exact Drawn0.refl _ | apply Drawn0.step)⟩
          · rw [if_neg c5] at H
            have c5b0 : ((rd l0 x5_1) == x1_1) = false := beq_eq_false_iff_ne.mpr c5
            have c5b1 : ((rd l0 x5_1) != x1_1) = true := bne_iff_ne.mpr c5
            obtain rfl := Option.some.inj H
            have p431 : 0 ≤ (x5_1 : Int) := of_decide_eq_true (by first | (with_reducible assumption) | assumption)
            have q431 : x5_1 < (l0.length : Int) := of_decide_eq_true (by first | (with_reducible assumption) | assumption)
            obtain ⟨ad431, e431, hx431_0⟩ := Kd.at_int HR0.out x5_1 p431 q431
            cases e431
            replace p431 := eq_true p431
            replace q431 := eq_true q431
            go_wp2
            go_ret
            exact ⟨by first | rfl | (simp; done) | (simp [*]; done), by repeat (first | exact Drawn0.refl _ | apply Drawn0.step)⟩
        · rw [if_neg c4] at H
          exact absurd H (by simp)
      · rw [if_neg c3] at H
        have c3b0 : decide (x5_1 < (l0.length : Int)) = false := decide_eq_false c3
        clear c3
        obtain rfl := Option.some.inj H
        go_wp2
        go_ret
        exact ⟨by first | rfl | (simp; done) | (simp [*]; done), by repeat (first | exact Drawn0.refl _ | apply Drawn0.step)⟩

end Go.Proofs.Ytllnieknogficaa.K
namespace Go.Proofs.Ytllnieknogficaa.K
open Go.RowKit Go.Proofs.YtllnieknogficaaW.PrintWords Go.Proofs.YtllnieknogficaaW.PrintLast Go.Proofs.YtllnieknogficaaW.PrintMore
attribute [local go_sem] max2_int min2_int max_two min_two max_three min_three max_four min_four   -- for this text's walks alone
set_option linter.unusedVariables false
set_option linter.unusedSimpArgs false

/-! ### laws_toIntS: function 42 -/
def laws_toIntS.l0 : Nat → List Int → List Int → Int → Option (List Int)
  | 0, _, _, _ => none
  | k + 1, x0, x3, x4 => if x4 < (x0.length : Int) then (if 0 ≤ x4 then (if x4 < (x3.length : Int) then (laws_toIntS.l0 k x0 (x3.set (x4 : Int).toNat (rd x0 x4)) (wrap64 (x4 + 1))) else (none)) else (none)) else (some x3)
def laws_toIntS.f (k : Nat) (l0 : List Int) : Option (List Int) := if 0 ≤ (l0.length : Int) then (if ((l0.length : Int) : Int).toNat ≤ 35184372088832 then (laws_toIntS.l0 k l0 (List.replicate ((l0.length : Int) : Int).toNat 0) 0) else (none)) else (none)
theorem laws_toIntS.mono_l : ∀ k, (∀ y0 y1 y2, LeO (laws_toIntS.l0 k y0 y1 y2) (laws_toIntS.l0 (k + 1) y0 y1 y2))
  | 0 => fun _ _ _ r h => by simp [laws_toIntS.l0] at h
  | k + 1 => by
    have ih0 := laws_toIntS.mono_l k
    · intro y0 y1 y2
      unfold laws_toIntS.l0
      repeat' first
      | (with_reducible exact ih0 _ _ _)
      | (with_reducible exact LeO.refl _)
      | (with_reducible exact LeO.none _)
      | (with_reducible refine LeO.ite ?_ ?_)
      | (with_reducible refine LeO.bind ?_ (fun _ => ?_))
      | exact ih0 _ _ _
      | exact LeO.none _
      | refine LeO.ite ?_ ?_
      | refine LeO.bind ?_ (fun _ => ?_)
theorem laws_toIntS.mono : ∀ a0 k, LeO (laws_toIntS.f k a0) (laws_toIntS.f (k + 1) a0) := by
  intro a0 k
  have ih0 := laws_toIntS.mono_l k
  unfold laws_toIntS.f
  repeat' first
      | (with_reducible exact ih0 _ _ _)
      | (with_reducible exact LeO.refl _)
      | (with_reducible exact LeO.none _)
      | (with_reducible refine LeO.ite ?_ ?_)
      | (with_reducible refine LeO.bind ?_ (fun _ => ?_))
      | exact ih0 _ _ _
      | exact LeO.none _
      | refine LeO.ite ?_ ?_
      | refine LeO.bind ?_ (fun _ => ?_)
set_option maxHeartbeats 8000000 in
set_option maxRecDepth 100000 in
theorem laws_toIntS.calls (k : Nat) (A0 : Option Addr) (c0 : Nat) (l0 : List Int) (r : List Int) (w : World) (hr0 : Kd.C (Kd.int .i64) w A0 l0.length l0) (hc0 : l0.length ≤ c0) (h : laws_toIntS.f k l0 = some r) :
    Calls Try.prog 42 #[.slice A0 l0.length c0] w fun e w' => ∃ v0_ : Value, e = .returned (v0_) ∧ Kd.R (Kd.int .i64) 3 w' w.heap.size (fun _ => True) v0_ r ∧ Below w.heap.size w w' := by
  have HR0 := Aside0.mk hr0
  have HC0 := Aside0.mk hc0
  clear hr0 hc0
  have HB := Aside0.mk (Below.refl w.heap.size w)
  have H : (if 0 ≤ (l0.length : Int) then (if ((l0.length : Int) : Int).toNat ≤ 35184372088832 then (laws_toIntS.l0 k l0 (List.replicate ((l0.length : Int) : Int).toNat 0) 0) else (none)) else (none)) = some r := h
  clear h
  by_cases c2 : 0 ≤ (l0.length : Int)
  · rw [if_pos c2] at H
    have c2b0 := eq_true c2
    have c2b1 : decide (0 ≤ (l0.length : Int)) = true := decide_eq_true c2
    clear c2
    by_cases c3 : ((l0.length : Int) : Int).toNat ≤ 35184372088832
    · rw [if_pos c3] at H
      have c3b0 := eq_true c3
      have c3b1 : decide (((l0.length : Int) : Int).toNat ≤ 35184372088832) = true := decide_eq_true c3
      clear c3
      obtain ⟨y397, hy397⟩ : ∃ y_ : List Int, y_ = (List.replicate ((l0.length : Int) : Int).toNat 0) := ⟨_, rfl⟩
      replace H : (laws_toIntS.l0 k l0 y397 0) = some r := by first | (rw [hy397]; with_reducible exact H) | (have H2_ := (Option.bind_some _ _).symm.trans H; rw [hy397]; with_reducible exact H2_) | (have H2_ := (Option.bind_some _ _).symm.trans H; with_reducible exact H2_) | with_reducible exact H | (rw [hy397]; exact H) | exact H
      have Ny397 := Aside0.mk hy397
      clear hy397
      have H' := Aside0.mk H
      clear H
      go_enter Try.func42, Try.ntmps42
      go_wp2_with (first | ((with_reducible refine gate_dst (N := 7) rfl ?_); refine Kd.R_make (Kd.int .i64) _ 3 rfl (N := 7) rfl 24 _ _ rfl (l0.length : Int) rfl rfl Try.underlying24 (.int .i64 0) 8 info3 rfl (by decide) (by omega) 0 (ok := fun _ => True) (okp := fun _ => True) rfl (fun _ hk => hk) trivial (of_decide_eq_true (by first | (with_reducible assumption) | assumption)) (Nat.le_trans (Nat.mul_le_mul_right _ (of_decide_eq_true (by first | (with_reducible assumption) | assumption) : (l0.length : Int).toNat ≤ 35184372088832)) (by omega)) (Below.refl _ _) (Nat.le_refl _) ?_; intro v398 w4 ho5 hb hg_ hnew_; clear hg_ hnew_; (first | rw [← Ny397.out] at ho5 | (simp only [Int.reduceToNat] at ho5; rw [← Ny397.out] at ho5)); have n0_ := Aside0.mk (Kd.R_lower ho5 (below_size (by repeat (first | (with_reducible first | exact HB.out | apply below_alloc | apply pw_below_drewN | apply below_drew1) | exact HB.out)))); have n1_ := Aside0.mk (below_step (by repeat (first | (with_reducible first | exact HB.out | apply below_alloc | apply pw_below_drewN | apply below_drew1) | exact HB.out)) hb); clear HB; have HO399 := n0_; have HB := n1_; clear n0_ n1_; clear hb ho5))
      go_loopg [4] k (fun kq v4 w' => ∃ (x3_1 : List Int) (x4_1 : Int), v4 = .int .i64 x4_1 ∧ Aside0 (laws_toIntS.l0 kq l0 x3_1 x4_1 = some r) ∧ Aside0 (kq ≤ k) ∧ Aside0 (Kd.R (Kd.int .i64) 3 w' w.heap.size (fun _ => True) v398 x3_1) ∧ Aside0 (Below w.heap.size w w'))
      case atStart => exact ⟨(y397), (0), (by first | rfl | (simp; done) | (simp [*]; done)), H', ⟨Nat.le_refl _⟩, ⟨by (with_reducible repeat (first | apply Kd.R_alloc | apply Kd.R_drewN | apply Kd.R_drew)); exact HO399.out⟩, ⟨by repeat (first | (with_reducible first | exact HB.out | apply below_alloc | apply pw_below_drewN | apply below_drew1) | exact HB.out)⟩⟩
      case round =>
        clear H'
        try clear c2
        try clear c2b0
        try clear c2b1
        try clear p2
        try clear c3
        try clear c3b0
        try clear c3b1
        try clear c4
        obtain ⟨x3_1, x4_1, rfl, HA, HK1, HO_3, HB⟩ := hrel
        cases gk with
        | zero => exact absurd HA.out (by simp [laws_toIntS.l0])
        | succ k1 =>
          have H := HA.out
          clear HA
          simp only [laws_toIntS.l0] at H
          by_cases c6 : x4_1 < (l0.length : Int)
          · rw [if_pos c6] at H
            have c6b0 : decide (x4_1 < (l0.length : Int)) = true := decide_eq_true c6
            clear c6
            by_cases c7 : 0 ≤ x4_1
            · rw [if_pos c7] at H
              have c7b0 : decide (0 ≤ x4_1) = true := decide_eq_true c7
              clear c7
              by_cases c8 : x4_1 < (x3_1.length : Int)
              · rw [if_pos c8] at H
                have c8b0 : decide (x4_1 < (x3_1.length : Int)) = true := decide_eq_true c8
                clear c8
                obtain ⟨y401, hy401⟩ : ∃ y_ : List Int, y_ = (x3_1.set (x4_1 : Int).toNat (rd l0 x4_1)) := ⟨_, rfl⟩
                replace H : (laws_toIntS.l0 k1 l0 y401 (wrap64 (x4_1 + 1))) = some r := by first | (rw [hy401]; with_reducible exact H) | (have H2_ := (Option.bind_some _ _).symm.trans H; rw [hy401]; with_reducible exact H2_) | (have H2_ := (Option.bind_some _ _).symm.trans H; with_reducible exact H2_) | with_reducible exact H | (rw [hy401]; exact H) | exact H
                have Ny401 := Aside0.mk hy401
                clear hy401
                have H' := Aside0.mk H
                clear H
                have p400 : 0 ≤ (x4_1 : Int) := of_decide_eq_true (by first | (with_reducible assumption) | assumption)
                have q400 : x4_1 < (l0.length : Int) := of_decide_eq_true (by first | (with_reducible assumption) | assumption)
                obtain ⟨ad400, e400, hx400_0⟩ := Kd.at_int HR0.out x4_1 p400 q400
                cases e400
                replace hx400_0 := (HB.out.cell (World.block_lt_of_cell? w _ hx400_0)).trans hx400_0
                replace p400 := eq_true p400
                replace q400 := eq_true q400
                have p9 : 0 ≤ (x4_1 : Int) := of_decide_eq_true (by first | (with_reducible assumption) | assumption)
                have q9 : (x4_1 : Int) < ((x3_1.length : Int) : Int) := of_decide_eq_true (by first | (with_reducible assumption) | assumption)
                obtain ⟨go9, co9, eo9, gb9, gl9, cl9, HG9⟩ := Kd.R_form HO_3.out (by omega)
                (first | cases eo9 | (injection eo9 with ea_ en_ ec_; (first | subst ea_ | (injection ea_ with ea_; subst ea_)); subst ec_; clear en_))
                have GB9 := Aside0.mk gb9
                have GG9 := Aside0.mk HG9
                clear gb9 gl9 HG9
                obtain ⟨hx9_0, hf9_0⟩ := Kd.R_celln 0 HO_3.out (x4_1 : Int) p9 q9
                replace p9 := eq_true p9
                replace q9 := eq_true q9
                have HP10 := Kd.R_putg HO_3.out (x4_1 : Int) (rd l0 x4_1)
                go_wp2_with (first | ((with_reducible refine gate_store (t := 3) (p := 20) rfl ?_); refine store_event (t := 3) (p := 20) (v := ?vo_w11) (w1 := (wr.setCell ⟨go9, (x4_1 : Int).toNat, none⟩ (.int .i64 (rd l0 x4_1)))) ?hg ?ho ?hn ?hr ?_; (case ho => rfl); (case hg => rfl); (case hn => rfl); (case hr => first | (go_simp; done) | (go_simp; rfl)); intro w11 hw; have hg : wr.grownBy w11 (some go9) := (by rw [hw]; exact HP10.2); have hp_ : Kd.R (Kd.int .i64) 3 w11 w.heap.size (fun _ => True) (.slice (some ⟨go9, 0, none⟩) x3_1.length co9) y401 := (by rw [hw, Ny401.out]; exact HP10.1); clear HP10; have n0_ := Aside0.mk (hp_); have n1_ := Aside0.mk ((by rw [hw]; exact below_set (HB.out) GB9.out : Below w.heap.size w w11)); clear HO_3; clear HB; have HO_3 := n0_; have HB := n1_; clear n0_ n1_; clear hg hw hp_))
                go_roundg k1
                case measure => have := HK1.out; omega
                case rel => exact ⟨(y401), (wrap64 (x4_1 + 1)), (by first | rfl | (simp; done) | (simp [*]; done)), H', ⟨by have := HK1.out; omega⟩, ⟨by (with_reducible repeat (first | apply Kd.R_alloc | apply Kd.R_drewN | apply Kd.R_drew)); exact HO_3.out⟩, ⟨by repeat (first | (with_reducible first | exact HB.out | apply below_alloc | apply pw_below_drewN | apply below_drew1) | exact HB.out)⟩⟩
              · rw [if_neg c8] at H
                exact absurd H (by simp)
            · rw [if_neg c7] at H
              exact absurd H (by simp)
          · rw [if_neg c6] at H
            have c6b0 : decide (x4_1 < (l0.length : Int)) = false := decide_eq_false c6
            clear c6
            obtain rfl := Option.some.inj H
            go_wp2
            go_ret
            exact ⟨_, by first | rfl | (simp [errW_none, errW_some] <;> rfl) | (simp [*, errW_none, errW_some] <;> rfl), by (with_reducible repeat (first | apply Kd.R_alloc | apply Kd.R_drewN | apply Kd.R_drew)); exact HO_3.out, by repeat (first | (with_reducible first | exact HB.out | apply below_alloc | apply pw_below_drewN | apply below_drew1) | exact HB.out)⟩
    · rw [if_neg c3] at H
      exact absurd H (by simp)
  · rw [if_neg c2] at H
    exact absurd H (by simp)

end Go.Proofs.Ytllnieknogficaa.K
namespace Go.Proofs.Ytllnieknogficaa.K
open Go.RowKit Go.Proofs.YtllnieknogficaaW.PrintWords Go.Proofs.YtllnieknogficaaW.PrintLast Go.Proofs.YtllnieknogficaaW.PrintMore
attribute [local go_sem] max2_int min2_int max_two min_two max_three min_three max_four min_four   -- for this text's walks alone
set_option linter.unusedVariables false
set_option linter.unusedSimpArgs false

/-! ### laws_toIntSS: function 36 -/
def laws_toIntSS.l0 : Nat → List (List Int) → List (List Int) → Int → Option ((List (List Int)))
  | 0, _, _, _ => none
  | k + 1, x0, x3, x4 => if x4 < (x0.length : Int) then (if 0 ≤ x4 then ((laws_toIntS.f k (rd_L2 x0 x4)).bind fun t406 => (if x4 < (x3.length : Int) then (laws_toIntSS.l0 k x0 (x3.set (x4 : Int).toNat t406) (wrap64 (x4 + 1))) else (none))) else (none)) else (some x3)
def laws_toIntSS.f (k : Nat) (l0 : List (List Int)) : Option ((List (List Int))) := if 0 ≤ (l0.length : Int) then (if ((l0.length : Int) : Int).toNat ≤ 11728124029610 then (laws_toIntSS.l0 k l0 (List.replicate ((l0.length : Int) : Int).toNat []) 0) else (none)) else (none)
theorem laws_toIntSS.mono_l : ∀ k, (∀ y0 y1 y2, LeO (laws_toIntSS.l0 k y0 y1 y2) (laws_toIntSS.l0 (k + 1) y0 y1 y2))
  | 0 => fun _ _ _ r h => by simp [laws_toIntSS.l0] at h
  | k + 1 => by
    have ih0 := laws_toIntSS.mono_l k
    · intro y0 y1 y2
      unfold laws_toIntSS.l0
      repeat' first
      | (with_reducible exact ih0 _ _ _)
      | (with_reducible exact laws_toIntS.mono _ _)
      | (with_reducible exact LeO.refl _)
      | (with_reducible exact LeO.none _)
      | (with_reducible refine LeO.ite ?_ ?_)
      | (with_reducible refine LeO.bind ?_ (fun _ => ?_))
      | exact ih0 _ _ _
      | exact laws_toIntS.mono _ _
      | exact LeO.none _
      | refine LeO.ite ?_ ?_
      | refine LeO.bind ?_ (fun _ => ?_)
theorem laws_toIntSS.mono : ∀ a0 k, LeO (laws_toIntSS.f k a0) (laws_toIntSS.f (k + 1) a0) := by
  intro a0 k
  have ih0 := laws_toIntSS.mono_l k
  unfold laws_toIntSS.f
  repeat' first
      | (with_reducible exact ih0 _ _ _)
      | (with_reducible exact laws_toIntS.mono _ _)
      | (with_reducible exact LeO.refl _)
      | (with_reducible exact LeO.none _)
      | (with_reducible refine LeO.ite ?_ ?_)
      | (with_reducible refine LeO.bind ?_ (fun _ => ?_))
      | exact ih0 _ _ _
      | exact laws_toIntS.mono _ _
      | exact LeO.none _
      | refine LeO.ite ?_ ?_
      | refine LeO.bind ?_ (fun _ => ?_)
set_option maxHeartbeats 8000000 in
set_option maxRecDepth 100000 in
theorem laws_toIntSS.calls (k : Nat) (A0 : Option Addr) (c0 : Nat) (l0 : List (List Int)) (r : List (List Int)) (w : World) (hr0 : Kd.C (Kd.slice 3 (Kd.int .i64)) w A0 l0.length l0) (hc0 : l0.length ≤ c0) (h : laws_toIntSS.f k l0 = some r) :
    Calls Try.prog 36 #[.slice A0 l0.length c0] w fun e w' => ∃ v0_ : Value, e = .returned (v0_) ∧ Kd.S (Kd.slice 3 (Kd.int .i64)) 24 w' w.heap.size (fun _ => True) v0_ r ∧ Below w.heap.size w w' := by
  have HR0 := Aside0.mk hr0
  have HC0 := Aside0.mk hc0
  clear hr0 hc0
  have HB := Aside0.mk (Below.refl w.heap.size w)
  have H : (if 0 ≤ (l0.length : Int) then (if ((l0.length : Int) : Int).toNat ≤ 11728124029610 then (laws_toIntSS.l0 k l0 (List.replicate ((l0.length : Int) : Int).toNat []) 0) else (none)) else (none)) = some r := h
  clear h
  by_cases c2 : 0 ≤ (l0.length : Int)
  · rw [if_pos c2] at H
    have c2b0 := eq_true c2
    have c2b1 : decide (0 ≤ (l0.length : Int)) = true := decide_eq_true c2
    clear c2
    by_cases c3 : ((l0.length : Int) : Int).toNat ≤ 11728124029610
    · rw [if_pos c3] at H
      have c3b0 := eq_true c3
      have c3b1 : decide (((l0.length : Int) : Int).toNat ≤ 11728124029610) = true := decide_eq_true c3
      clear c3
      obtain ⟨y402, hy402⟩ : ∃ y_ : List (List Int), y_ = (List.replicate ((l0.length : Int) : Int).toNat []) := ⟨_, rfl⟩
      replace H : (laws_toIntSS.l0 k l0 y402 0) = some r := by first | (rw [hy402]; with_reducible exact H) | (have H2_ := (Option.bind_some _ _).symm.trans H; rw [hy402]; with_reducible exact H2_) | (have H2_ := (Option.bind_some _ _).symm.trans H; with_reducible exact H2_) | with_reducible exact H | (rw [hy402]; exact H) | exact H
      have Ny402 := Aside0.mk hy402
      clear hy402
      have H' := Aside0.mk H
      clear H
      go_enter Try.func36, Try.ntmps36
      go_wp2_with (first | ((with_reducible refine gate_dst (N := 7) rfl ?_); refine Kd.S_make (Kd.slice 3 (Kd.int .i64)) _ 24 rfl (N := 7) rfl 37 _ _ rfl (l0.length : Int) rfl rfl Try.underlying37 (.slice none 0 0) 24 info24 rfl (by decide) (by omega) [] (ok := fun _ => True) (okp := fun _ => True) ⟨_, rfl, Kd.R_nil _ _ _ _ _⟩ (fun _ hk => hk) trivial (of_decide_eq_true (by first | (with_reducible assumption) | assumption)) (Nat.le_trans (Nat.mul_le_mul_right _ (of_decide_eq_true (by first | (with_reducible assumption) | assumption) : (l0.length : Int).toNat ≤ 11728124029610)) (by omega)) (Below.refl _ _) (Nat.le_refl _) ?_; intro v403 w4 ho5 hb hg_ hnew_; clear hg_ hnew_; (first | rw [← Ny402.out] at ho5 | (simp only [Int.reduceToNat] at ho5; rw [← Ny402.out] at ho5)); have n0_ := Aside0.mk (Kd.S_lower ho5 (below_size (by repeat (first | (with_reducible first | exact HB.out | apply below_alloc | apply pw_below_drewN | apply below_drew1) | exact HB.out)))); have n1_ := Aside0.mk (below_step (by repeat (first | (with_reducible first | exact HB.out | apply below_alloc | apply pw_below_drewN | apply below_drew1) | exact HB.out)) hb); clear HB; have HO404 := n0_; have HB := n1_; clear n0_ n1_; clear hb ho5))
      go_loopg [4] k (fun kq v4 w' => ∃ (x3_1 : List (List Int)) (x4_1 : Int), v4 = .int .i64 x4_1 ∧ Aside0 (laws_toIntSS.l0 kq l0 x3_1 x4_1 = some r) ∧ Aside0 (kq ≤ k) ∧ Aside0 (Kd.S (Kd.slice 3 (Kd.int .i64)) 24 w' w.heap.size (fun _ => True) v403 x3_1) ∧ Aside0 (Below w.heap.size w w'))
      case atStart => exact ⟨(y402), (0), (by first | rfl | (simp; done) | (simp [*]; done)), H', ⟨Nat.le_refl _⟩, ⟨by (with_reducible repeat (first | apply Kd.S_alloc | apply Kd.S_drewN | apply Kd.S_drew)); exact HO404.out⟩, ⟨by repeat (first | (with_reducible first | exact HB.out | apply below_alloc | apply pw_below_drewN | apply below_drew1) | exact HB.out)⟩⟩
      case round =>
        clear H'
        try clear c2
        try clear c2b0
        try clear c2b1
        try clear p2
        try clear c3
        try clear c3b0
        try clear c3b1
        obtain ⟨x3_1, x4_1, rfl, HA, HK1, HO_3, HB⟩ := hrel
        cases gk with
        | zero => exact absurd HA.out (by simp [laws_toIntSS.l0])
        | succ k1 =>
          have H := HA.out
          clear HA
          simp only [laws_toIntSS.l0] at H
          by_cases c6 : x4_1 < (l0.length : Int)
          · rw [if_pos c6] at H
            have c6b0 : decide (x4_1 < (l0.length : Int)) = true := decide_eq_true c6
            clear c6
            by_cases c7 : 0 ≤ x4_1
            · rw [if_pos c7] at H
              have c7b0 : decide (0 ≤ x4_1) = true := decide_eq_true c7
              clear c7
              replace H := Option.bind_eq_some_iff.mp H
              obtain ⟨t406, A80, H⟩ := H
              replace H : (if x4_1 < (x3_1.length : Int) then (laws_toIntSS.l0 k1 l0 (x3_1.set (x4_1 : Int).toNat t406) (wrap64 (x4_1 + 1))) else (none)) = some r := H
              have A8 := Aside0.mk A80
              clear A80
              by_cases c9 : x4_1 < (x3_1.length : Int)
              · rw [if_pos c9] at H
                have c9b0 : decide (x4_1 < (x3_1.length : Int)) = true := decide_eq_true c9
                clear c9
                obtain ⟨y409, hy409⟩ : ∃ y_ : List (List Int), y_ = (x3_1.set (x4_1 : Int).toNat t406) := ⟨_, rfl⟩
                replace H : (laws_toIntSS.l0 k1 l0 y409 (wrap64 (x4_1 + 1))) = some r := by first | (rw [hy409]; with_reducible exact H) | (have H2_ := (Option.bind_some _ _).symm.trans H; rw [hy409]; with_reducible exact H2_) | (have H2_ := (Option.bind_some _ _).symm.trans H; with_reducible exact H2_) | with_reducible exact H | (rw [hy409]; exact H) | exact H
                have Ny409 := Aside0.mk hy409
                clear hy409
                have H' := Aside0.mk H
                clear H
                have p405 : 0 ≤ (x4_1 : Int) := of_decide_eq_true (by first | (with_reducible assumption) | assumption)
                have q405 : x4_1 < (l0.length : Int) := of_decide_eq_true (by first | (with_reducible assumption) | assumption)
                obtain ⟨ad405, A405_0, c405_0, e405, hx405_0, hl405_0, hi405_0⟩ := at_L2 HR0.out x4_1 p405 q405
                cases e405
                replace hx405_0 := (HB.out.cell (World.block_lt_of_cell? w _ hx405_0)).trans hx405_0
                have HR405_0 := Aside0.mk hi405_0
                have HC405_0 := Aside0.mk hl405_0
                clear hi405_0 hl405_0
                replace p405 := eq_true p405
                replace q405 := eq_true q405
                go_wp2_with (first | ((with_reducible refine gate_callee (f := 42) rfl ?_); refine goesL_ (some 20) rfl rfl Try.func42 (by kernel_rfl) rfl #[.slice A405_0 (rd_L2 l0 x4_1).length c405_0] rfl (by (try simp only [List.map_toArray, List.map_cons, List.map_nil]); first | done | rfl | (simp only [List.length_drop, List.length_take]; rfl)) ?_; (with_reducible refine (laws_toIntS.calls k1 _ _ (rd_L2 l0 x4_1) t406 _ ?side1 ?side2 A8.out).mono ?_); (case side1 => repeat (first | exact (Kd.C_below HR405_0.out HB.out) | (with_reducible refine Kd.C_alloc ?_ _) | (with_reducible refine Kd.C_drewN ?_ _) | (with_reducible refine Kd.C_drew ?_))); (case side2 => exact HC405_0.out); rintro e w11 ⟨v407, rfl, ho0, hb⟩; refine ⟨_, rfl, ?_⟩; have n0_ := Aside0.mk (Kd.S_elder' (by (with_reducible repeat (first | apply Kd.S_alloc | apply Kd.S_drewN | apply Kd.S_drew)); exact HO_3.out) (Kd.R_base ho0) hb); have n1_ := Aside0.mk (Kd.R_lower ho0 (below_size (by repeat (first | (with_reducible first | exact HB.out | apply below_alloc | apply pw_below_drewN | apply below_drew1) | exact HB.out)))); have n2_ := Aside0.mk (below_step (by repeat (first | (with_reducible first | exact HB.out | apply below_alloc | apply pw_below_drewN | apply below_drew1) | exact HB.out)) hb); clear HO_3; clear HB; have HO_3 := n0_; have HO408 := n1_; have HB := n2_; clear n0_ n1_ n2_; (try clear hb); (try clear hb2); (try clear hk); (try clear hi); (try clear ho0); have p10 : 0 ≤ (x4_1 : Int) := of_decide_eq_true (by first | (with_reducible assumption) | assumption); have q10 : (x4_1 : Int) < ((x3_1.length : Int) : Int) := of_decide_eq_true (by first | (with_reducible assumption) | assumption); obtain ⟨go10, co10, eo10, gb10, gl10, cl10, HG10⟩ := Kd.S_form HO_3.out (by omega); (first | cases eo10 | (injection eo10 with ea_ en_ ec_; (first | subst ea_ | (injection ea_ with ea_; subst ea_)); subst ec_; clear en_)); have GB10 := Aside0.mk gb10; have GG10 := Aside0.mk HG10; clear gb10 gl10 HG10; obtain ⟨_, ce10, hcl10, hM10, hcc10, hfr10, _, _⟩ := Kd.S_elem HO_3.out [] (x4_1 : Int) p10 q10; obtain ⟨ve10_0, rfl, ge10_0⟩ := hM10; have hx10_0 := hcc10 0 _ rfl; have hf10_0 := hfr10 0; (try simp only [show ((Kd.slice 3 (Kd.int .i64))).sz = 1 from rfl, Nat.mul_one, Nat.add_zero] at hx10_0); (try simp only [show ((Kd.slice 3 (Kd.int .i64))).sz = 1 from rfl, Nat.mul_one, Nat.add_zero] at hf10_0); (try clear hcl10); (try clear hcc10); (try clear hfr10); (try clear hM10); replace p10 := eq_true p10; replace q10 := eq_true q10; have n_ := Aside0.mk (Kd.S_mono (ok' := (fun k_ => some k_ ≠ (v407 : Value).ownBlock)) HO_3.out (fun k_ hk => hk.2)); clear HO_3; have HO_3 := n_; clear n_; have HX12 := Aside0.mk (show Kd.S (Kd.slice 3 (Kd.int .i64)) 24 w11 w.heap.size (fun k_ => ((fun _ => True)) k_ ∧ ¬ ((fun k_ => some k_ = (v407 : Value).ownBlock)) k_) (.slice (some ⟨go10, 0, none⟩) x3_1.length co10) x3_1 from (by (with_reducible repeat (first | apply Kd.S_alloc | apply Kd.S_drewN | apply Kd.S_drew)); exact Kd.S_mono HO_3.out (fun k_ hk => ⟨trivial, fun e_ => hk e_⟩))); obtain ⟨oki12, ce12, hcl12, hM12, hcc12, hfr12, hoki12, hH12⟩ := Kd.S_elem HX12.out [] (x4_1 : Int) (of_decide_eq_true (by first | (with_reducible assumption) | assumption)) (by have h_ : (x4_1 : Int) < ((x3_1.length : Int) : Int) := of_decide_eq_true (by first | (with_reducible assumption) | assumption); first | exact h_ | (have e_ := (Kd.S_reads' HO_3.out).1; omega) | simpa using h_); obtain ⟨ve12_0, rfl, ge12_0⟩ := hM12; have HP12 := Kd.S_seg hH12 (of_decide_eq_true (by first | (with_reducible assumption) | assumption)) (by have h_ : (x4_1 : Int) < ((x3_1.length : Int) : Int) := of_decide_eq_true (by first | (with_reducible assumption) | assumption); first | exact h_ | (have e_ := (Kd.S_reads' HO_3.out).1; omega) | simpa using h_) (seg := [v407]) (j := 0) (show 1 ≤ 1 from by decide) (x' := t406) (Kd.M_row (Kd.R_mono (Kd.R_tight rfl (Kd.R_mono (ok' := fun k_ => ((fun _ => True)) k_ ∧ k_ ≠ go10) (Kd.R_apart' (HO408.out) (Kd.S_typed HO_3.out) (by decide)) (fun k_ hk => ⟨trivial, fun e_ => (hk.2) (by rw [e_]; rfl)⟩))) (fun _ h_ => Or.inr (h_)))) (fun _ hk => hk) (fun k_ hk_ => ((Kd.R_mono (ok' := fun k_ => ((fun _ => True)) k_ ∧ k_ ≠ go10) (Kd.R_apart' (HO408.out) (Kd.S_typed HO_3.out) (by decide)) (fun k_ hk => ⟨trivial, fun e_ => (hk.2) (by rw [e_]; rfl)⟩))).1 k_ hk_.symm); have hx12_0 := hcc12 0 _ rfl; (try simp only [show ((Kd.slice 3 (Kd.int .i64))).sz = 1 from rfl, Nat.mul_one, Nat.add_zero] at hx12_0); have hf12_0 := hfr12 0; (try simp only [show ((Kd.slice 3 (Kd.int .i64))).sz = 1 from rfl, Nat.mul_one, Nat.add_zero] at hf12_0); (try clear hcl12); (try clear hcc12); (try clear hfr12); (try clear hM12); (try clear hoki12); (try clear hH12); (try simp only [show ((Kd.slice 3 (Kd.int .i64))).sz = 1 from rfl, Nat.mul_one, Nat.add_zero] at HP12)) | ((with_reducible refine gate_store (t := 24) (p := 21) rfl ?_); refine store_event (t := 24) (p := 21) (v := ?vo_w13) (w1 := (w11.setCell ⟨go10, (x4_1 : Int).toNat, none⟩ (v407))) ?hg ?ho ?hn ?hr ?_; (case ho => rfl); (case hg => rfl); (case hn => rfl); (case hr => obtain ⟨A_, c_, e_, _, _⟩ := Kd.R_reads HO408.out; rw [e_]; (first | (go_simp; done) | (go_simp; rfl))); intro w13 hw; have hg : w11.grownBy w13 (some go10) := (by rw [hw]; exact HP12.2); have hp_ : Kd.S (Kd.slice 3 (Kd.int .i64)) 24 w13 w.heap.size (fun _ => True) (.slice (some ⟨go10, 0, none⟩) x3_1.length co10) y409 := (by rw [hw, Ny409.out]; exact HP12.1); clear HP12; have n0_ := Aside0.mk (hp_); have n1_ := Aside0.mk ((by rw [hw]; exact below_set (HB.out) GB10.out : Below w.heap.size w w13)); clear HO_3; clear HB; clear HO408; have HO_3 := n0_; have HB := n1_; clear n0_ n1_; clear hg hw hp_))
                go_roundg k1
                case measure => have := HK1.out; omega
                case rel => exact ⟨(y409), (wrap64 (x4_1 + 1)), (by first | rfl | (simp; done) | (simp [*]; done)), H', ⟨by have := HK1.out; omega⟩, ⟨by (with_reducible repeat (first | apply Kd.S_alloc | apply Kd.S_drewN | apply Kd.S_drew)); exact HO_3.out⟩, ⟨by repeat (first | (with_reducible first | exact HB.out | apply below_alloc | apply pw_below_drewN | apply below_drew1) | exact HB.out)⟩⟩
              · rw [if_neg c9] at H
                exact absurd H (by simp)
            · rw [if_neg c7] at H
              exact absurd H (by simp)
          · rw [if_neg c6] at H
            have c6b0 : decide (x4_1 < (l0.length : Int)) = false := decide_eq_false c6
            clear c6
            obtain rfl := Option.some.inj H
            go_wp2
            go_ret
            exact ⟨_, by first | rfl | (simp [errW_none, errW_some] <;> rfl) | (simp [*, errW_none, errW_some] <;> rfl), by (with_reducible repeat (first | apply Kd.S_alloc | apply Kd.S_drewN | apply Kd.S_drew)); exact HO_3.out, by repeat (first | (with_reducible first | exact HB.out | apply below_alloc | apply pw_below_drewN | apply below_drew1) | exact HB.out)⟩
    · rw [if_neg c3] at H
      exact absurd H (by simp)
  · rw [if_neg c2] at H
    exact absurd H (by simp)

end Go.Proofs.Ytllnieknogficaa.K
namespace Go.Proofs.Ytllnieknogficaa.K
open Go.RowKit Go.Proofs.YtllnieknogficaaW.PrintWords Go.Proofs.YtllnieknogficaaW.PrintLast Go.Proofs.YtllnieknogficaaW.PrintMore
attribute [local go_sem] max2_int min2_int max_two min_two max_three min_three max_four min_four   -- for this text's walks alone
set_option linter.unusedVariables false
set_option linter.unusedSimpArgs false

/-! ### laws_eqIntSS: function 38 -/
def laws_eqIntSS.l0 : Nat → List (List Int) → List (List Int) → Int → Option (Bool)
  | 0, _, _, _ => none
  | k + 1, x0, x1, x5 => if x5 < (x0.length : Int) then (if 0 ≤ x5 then (if x5 < (x1.length : Int) then ((laws_eqIntS.f k (rd_L2 x0 x5) (rd_L2 x1 x5)).bind fun t429 => (if t429 = true then (laws_eqIntSS.l0 k x0 x1 (wrap64 (x5 + 1))) else (some false))) else (none)) else (none)) else (some true)
def laws_eqIntSS.f (k : Nat) (l0 : List (List Int)) (l1 : List (List Int)) : Option (Bool) := if (l0.length : Int) = (l1.length : Int) then (laws_eqIntSS.l0 k l0 l1 0) else (some false)
theorem laws_eqIntSS.mono_l : ∀ k, (∀ y0 y1 y2, LeO (laws_eqIntSS.l0 k y0 y1 y2) (laws_eqIntSS.l0 (k + 1) y0 y1 y2))
  | 0 => fun _ _ _ r h => by simp [laws_eqIntSS.l0] at h
  | k + 1 => by
    have ih0 := laws_eqIntSS.mono_l k
    · intro y0 y1 y2
      unfold laws_eqIntSS.l0
      repeat' first
      | (with_reducible exact ih0 _ _ _)
      | (with_reducible exact laws_eqIntS.mono _ _ _)
      | (with_reducible exact LeO.refl _)
      | (with_reducible exact LeO.none _)
      | (with_reducible refine LeO.ite ?_ ?_)
      | (with_reducible refine LeO.bind ?_ (fun _ => ?_))
      | exact ih0 _ _ _
      | exact laws_eqIntS.mono _ _ _
      | exact LeO.none _
      | refine LeO.ite ?_ ?_
      | refine LeO.bind ?_ (fun _ => ?_)
theorem laws_eqIntSS.mono : ∀ a0 a1 k, LeO (laws_eqIntSS.f k a0 a1) (laws_eqIntSS.f (k + 1) a0 a1) := by
  intro a0 a1 k
  have ih0 := laws_eqIntSS.mono_l k
  unfold laws_eqIntSS.f
  repeat' first
      | (with_reducible exact ih0 _ _ _)
      | (with_reducible exact laws_eqIntS.mono _ _ _)
      | (with_reducible exact LeO.refl _)
      | (with_reducible exact LeO.none _)
      | (with_reducible refine LeO.ite ?_ ?_)
      | (with_reducible refine LeO.bind ?_ (fun _ => ?_))
      | exact ih0 _ _ _
      | exact laws_eqIntS.mono _ _ _
      | exact LeO.none _
      | refine LeO.ite ?_ ?_
      | refine LeO.bind ?_ (fun _ => ?_)
set_option maxHeartbeats 8000000 in
set_option maxRecDepth 100000 in
theorem laws_eqIntSS.calls (k : Nat) (A0 : Option Addr) (c0 : Nat) (l0 : List (List Int)) (A1 : Option Addr) (c1 : Nat) (l1 : List (List Int)) (r : Bool) (w : World) (hr0 : Kd.C (Kd.slice 3 (Kd.int .i64)) w A0 l0.length l0) (hc0 : l0.length ≤ c0) (hr1 : Kd.C (Kd.slice 3 (Kd.int .i64)) w A1 l1.length l1) (hc1 : l1.length ≤ c1) (h : laws_eqIntSS.f k l0 l1 = some r) :
    Calls Try.prog 38 #[.slice A0 l0.length c0, .slice A1 l1.length c1] w fun e w' => e = .returned (.bool r) ∧ Drawn0 w w' := by
  have HR0 := Aside0.mk hr0
  have HC0 := Aside0.mk hc0
  clear hr0 hc0
  have HR1 := Aside0.mk hr1
  have HC1 := Aside0.mk hc1
  clear hr1 hc1
  have H : (if (l0.length : Int) = (l1.length : Int) then (laws_eqIntSS.l0 k l0 l1 0) else (some false)) = some r := h
  clear h
  by_cases c3 : (l0.length : Int) = (l1.length : Int)
  · rw [if_pos c3] at H
    have c3b0 : ((l0.length : Int) == (l1.length : Int)) = true := beq_iff_eq.mpr c3
    have c3b1 : ((l0.length : Int) != (l1.length : Int)) = false := bne_eq_false_iff_eq.mpr c3
    have c3b2 : (l0.length == l1.length) = true := by first | simpa using c3 | (simp at c3 ⊢; omega)
    clear c3
    have H' := Aside0.mk H
    clear H
    go_enter Try.func38, Try.ntmps38
    go_wp2
    repeat (go_quiet (fail); try go_wp2)
    go_loopg [5] k (fun kq v5 w' => ∃ (x5_1 : Int), v5 = .int .i64 x5_1 ∧ Aside0 (laws_eqIntSS.l0 kq l0 l1 x5_1 = some r) ∧ Aside0 (kq ≤ k) ∧ Drawn0 w w')
    case atStart => exact ⟨(0), (by first | rfl | (simp; done) | (simp [*]; done)), H', ⟨Nat.le_refl _⟩, by repeat (first | exact Drawn0.refl _ | apply Drawn0.step)⟩
    case round =>
      clear H'
      try clear c1
      try clear p2
      try clear c3
      try clear c3b0
      try clear c3b1
      try clear c3b2
      obtain ⟨x5_1, rfl, HA, HK1, ⟨m1, rfl⟩⟩ := hrel
      cases gk with
      | zero => exact absurd HA.out (by simp [laws_eqIntSS.l0])
      | succ k1 =>
        have H := HA.out
        clear HA
        simp only [laws_eqIntSS.l0] at H
        by_cases c4 : x5_1 < (l0.length : Int)
        · rw [if_pos c4] at H
          have c4b0 : decide (x5_1 < (l0.length : Int)) = true := decide_eq_true c4
          clear c4
          by_cases c5 : 0 ≤ x5_1
          · rw [if_pos c5] at H
            have c5b0 : decide (0 ≤ x5_1) = true := decide_eq_true c5
            clear c5
            by_cases c6 : x5_1 < (l1.length : Int)
            · rw [if_pos c6] at H
              have c6b0 : decide (x5_1 < (l1.length : Int)) = true := decide_eq_true c6
              clear c6
              replace H := Option.bind_eq_some_iff.mp H
              obtain ⟨t429, A70, H⟩ := H
              replace H : (if t429 = true then (laws_eqIntSS.l0 k1 l0 l1 (wrap64 (x5_1 + 1))) else (some false)) = some r := H
              have A7 := Aside0.mk A70
              clear A70
              by_cases c8 : t429 = true
              · subst c8
                have H1 : (laws_eqIntSS.l0 k1 l0 l1 (wrap64 (x5_1 + 1))) = some r := by rw [if_pos rfl] at H; exact H
                clear H
                have H := H1
                clear H1
                have H' := Aside0.mk H
                clear H
                have p427 : 0 ≤ (x5_1 : Int) := of_decide_eq_true (by first | (with_reducible assumption) | assumption)
                have q427 : x5_1 < (l0.length : Int) := of_decide_eq_true (by first | (with_reducible assumption) | assumption)
                obtain ⟨ad427, A427_0, c427_0, e427, hx427_0, hl427_0, hi427_0⟩ := at_L2 HR0.out x5_1 p427 q427
                cases e427
                have HR427_0 := Aside0.mk hi427_0
                have HC427_0 := Aside0.mk hl427_0
                clear hi427_0 hl427_0
                replace p427 := eq_true p427
                replace q427 := eq_true q427
                have p428 : 0 ≤ (x5_1 : Int) := of_decide_eq_true (by first | (with_reducible assumption) | assumption)
                have q428 : x5_1 < (l1.length : Int) := of_decide_eq_true (by first | (with_reducible assumption) | assumption)
                obtain ⟨ad428, A428_0, c428_0, e428, hx428_0, hl428_0, hi428_0⟩ := at_L2 HR1.out x5_1 p428 q428
                cases e428
                have HR428_0 := Aside0.mk hi428_0
                have HC428_0 := Aside0.mk hl428_0
                clear hi428_0 hl428_0
                replace p428 := eq_true p428
                replace q428 := eq_true q428
                go_wp2_with (first | (go_at_call 45; (with_reducible refine (laws_eqIntS.calls k1 _ _ (rd_L2 l0 x5_1) _ _ (rd_L2 l1 x5_1) true _ ?side1 ?side2 ?side3 ?side4 A7.out).mono ?_); (case side1 => repeat (first | exact HR427_0.out | (with_reducible refine Kd.C_alloc ?_ _) | (with_reducible refine Kd.C_drewN ?_ _) | (with_reducible refine Kd.C_drew ?_))); (case side2 => exact HC427_0.out); (case side3 => repeat (first | exact HR428_0.out | (with_reducible refine Kd.C_alloc ?_ _) | (with_reducible refine Kd.C_drewN ?_ _) | (with_reducible refine Kd.C_drew ?_))); (case side4 => exact HC428_0.out); rintro e w' ⟨rfl, ⟨nd, rfl⟩⟩; (try first | exact ⟨rfl, _, World.drewN_drewN _ _ _⟩ | exact ⟨rfl, _, Eq.trans (World.drewN_drewN _ _ _) (congrArg (World.drewN _) (Nat.add_assoc _ _ _))⟩)))
                repeat (go_quiet (first | (go_at_call 45; (with_reducible refine (laws_eqIntS.calls k1 _ _ (rd_L2 l0 x5_1) _ _ (rd_L2 l1 x5_1) true _ ?side1 ?side2 ?side3 ?side4 A7.out).mono ?_); (case side1 => repeat (first | exact HR427_0.out | (with_reducible refine Kd.C_alloc ?_ _) | (with_reducible refine Kd.C_drewN ?_ _) | (with_reducible refine Kd.C_drew ?_))); (case side2 => exact HC427_0.out); (case side3 => repeat (first | exact HR428_0.out | (with_reducible refine Kd.C_alloc ?_ _) | (with_reducible refine Kd.C_drewN ?_ _) | (with_reducible refine Kd.C_drew ?_))); (case side4 => exact HC428_0.out); rintro e w' ⟨rfl, ⟨nd, rfl⟩⟩; (try first | exact ⟨rfl, _, World.drewN_drewN _ _ _⟩ | exact ⟨rfl, _, Eq.trans (World.drewN_drewN _ _ _) (congrArg (World.drewN _) (Nat.add_assoc _ _ _))⟩))); try go_wp2_with (first | (go_at_call 45; (with_reducible refine (laws_eqIntS.calls k1 _ _ (rd_L2 l0 x5_1) _ _ (rd_L2 l1 x5_1) true _ ?side1 ?side2 ?side3 ?side4 A7.out).mono ?_); (case side1 => repeat (first | exact HR427_0.out | (with_reducible refine Kd.C_alloc ?_ _) | (with_reducible refine Kd.C_drewN ?_ _) | (with_reducible refine Kd.C_drew ?_))); (case side2 => exact HC427_0.out); (case side3 => repeat (first | exact HR428_0.out | (with_reducible refine Kd.C_alloc ?_ _) | (with_reducible refine Kd.C_drewN ?_ _) | (with_reducible refine Kd.C_drew ?_))); (case side4 => exact HC428_0.out); rintro e w' ⟨rfl, ⟨nd, rfl⟩⟩; (try first | exact ⟨rfl, _, World.drewN_drewN _ _ _⟩ | exact ⟨rfl, _, Eq.trans (World.drewN_drewN _ _ _) (congrArg (World.drewN _) (Nat.add_assoc _ _ _))⟩))))
                go_roundg k1
                case measure => have := HK1.out; omega
                case rel => exact ⟨(wrap64 (x5_1 + 1)), (by first | rfl | (simp; done) | (simp [*]; done)), H', ⟨by have := HK1.out; omega⟩, by repeat (first | exact Drawn0.refl _ | apply Drawn0.step)⟩
              · replace c8 := Bool.eq_false_iff.mpr c8
                subst c8
                have H1 : (some false) = some r := by rw [if_neg (show ¬ (false = true) by decide)] at H; exact H
                clear H
                have H := H1
                clear H1
                obtain rfl := Option.some.inj H
                have p427 : 0 ≤ (x5_1 : Int) := of_decide_eq_true (by first | (with_reducible assumption) | assumption)
                have q427 : x5_1 < (l0.length : Int) := of_decide_eq_true (by first | (with_reducible assumption) | assumption)
                obtain ⟨ad427, A427_0, c427_0, e427, hx427_0, hl427_0, hi427_0⟩ := at_L2 HR0.out x5_1 p427 q427
                cases e427
                have HR427_0 := Aside0.mk hi427_0
                have HC427_0 := Aside0.mk hl427_0
                clear hi427_0 hl427_0
                replace p427 := eq_true p427
                replace q427 := eq_true q427
                have p428 : 0 ≤ (x5_1 : Int) := of_decide_eq_true (by first | (with_reducible assumption) | assumption)
                have q428 : x5_1 < (l1.length : Int) := of_decide_eq_true (by first | (with_reducible assumption) | assumption)
                obtain ⟨ad428, A428_0, c428_0, e428, hx428_0, hl428_0, hi428_0⟩ := at_L2 HR1.out x5_1 p428 q428
                cases e428
                have HR428_0 := Aside0.mk hi428_0
                have HC428_0 := Aside0.mk hl428_0
                clear hi428_0 hl428_0
                replace p428 := eq_true p428
                replace q428 := eq_true q428
                go_wp2_with (first | (go_at_call 45; (with_reducible refine (laws_eqIntS.calls k1 _ _ (rd_L2 l0 x5_1) _ _ (rd_L2 l1 x5_1) false _ ?side1 ?side2 ?side3 ?side4 A7.out).mono ?_); (case side1 => repeat (first | exact HR427_0.out | (with_reducible refine Kd.C_alloc ?_ _) | (with_reducible refine Kd.C_drewN ?_ _) | (with_reducible refine Kd.C_drew ?_))); (case side2 => exact HC427_0.out); (case side3 => repeat (first | exact HR428_0.out | (with_reducible refine Kd.C_alloc ?_ _) | (with_reducible refine Kd.C_drewN ?_ _) | (with_reducible refine Kd.C_drew ?_))); (case side4 => exact HC428_0.out); rintro e w' ⟨rfl, ⟨nd, rfl⟩⟩; (try first | exact ⟨rfl, _, World.drewN_drewN _ _ _⟩ | exact ⟨rfl, _, Eq.trans (World.drewN_drewN _ _ _) (congrArg (World.drewN _) (Nat.add_assoc _ _ _))⟩)))
                repeat (go_quiet (first | (go_at_call 45; (with_reducible refine (laws_eqIntS.calls k1 _ _ (rd_L2 l0 x5_1) _ _ (rd_L2 l1 x5_1) false _ ?side1 ?side2 ?side3 ?side4 A7.out).mono ?_); (case side1 => repeat (first | exact HR427_0.out | (with_reducible refine Kd.C_alloc ?_ _) | (with_reducible refine Kd.C_drewN ?_ _) | (with_reducible refine Kd.C_drew ?_))); (case side2 => exact HC427_0.out); (case side3 => repeat (first | exact HR428_0.out | (with_reducible refine Kd.C_alloc ?_ _) | (with_reducible refine Kd.C_drewN ?_ _) | (with_reducible refine Kd.C_drew ?_))); (case side4 => exact HC428_0.out); rintro e w' ⟨rfl, ⟨nd, rfl⟩⟩; (try first | exact ⟨rfl, _, World.drewN_drewN _ _ _⟩ | exact ⟨rfl, _, Eq.trans (World.drewN_drewN _ _ _) (congrArg (World.drewN _) (Nat.add_assoc _ _ _))⟩))); try go_wp2_with (first | (go_at_call 45; (with_reducible refine (laws_eqIntS.calls k1 _ _ (rd_L2 l0 x5_1) _ _ (rd_L2 l1 x5_1) false _ ?side1 ?side2 ?side3 ?side4 A7.out).mono ?_); (case side1 => repeat (first | exact HR427_0.out | (with_reducible refine Kd.C_alloc ?_ _) | (with_reducible refine Kd.C_drewN ?_ _) | (with_reducible refine Kd.C_drew ?_))); (case side2 => exact HC427_0.out); (case side3 => repeat (first | exact HR428_0.out | (with_reducible refine Kd.C_alloc ?_ _) | (with_reducible refine Kd.C_drewN ?_ _) | (with_reducible refine Kd.C_drew ?_))); (case side4 => exact HC428_0.out); rintro e w' ⟨rfl, ⟨nd, rfl⟩⟩; (try first | exact ⟨rfl, _, World.drewN_drewN _ _ _⟩ | exact ⟨rfl, _, Eq.trans (World.drewN_drewN _ _ _) (congrArg (World.drewN _) (Nat.add_assoc _ _ _))⟩))))
                go_ret
                exact ⟨by first | rfl | (simp; done) | (simp [*]; done), by repeat (first | exact Drawn0.refl _ | apply Drawn0.step)⟩
            · rw [if_neg c6] at H
              exact absurd H (by simp)
          · rw [if_neg c5] at H
            exact absurd H (by simp)
        · rw [if_neg c4] at H
          have c4b0 : decide (x5_1 < (l0.length : Int)) = false := decide_eq_false c4
          clear c4
          obtain rfl := Option.some.inj H
          go_wp2
          repeat (go_quiet (fail); try go_wp2)
          go_ret
          exact ⟨by first | rfl | (simp; done) | (simp [*]; done), by repeat (first | exact Drawn0.refl _ | apply Drawn0.step)⟩
  · rw [if_neg c3] at H
    have c3b0 : ((l0.length : Int) == (l1.length : Int)) = false := beq_eq_false_iff_ne.mpr c3
    have c3b1 : ((l0.length : Int) != (l1.length : Int)) = true := bne_iff_ne.mpr c3
    have c3b2 : (l0.length == l1.length) = false := by first | simpa using c3 | (simp at c3 ⊢; omega)
    obtain rfl := Option.some.inj H
    go_enter Try.func38, Try.ntmps38
    go_wp2
    repeat (go_quiet (fail); try go_wp2)
    go_ret
    exact ⟨by first | rfl | (simp; done) | (simp [*]; done), by repeat (first | exact Drawn0.refl _ | apply Drawn0.step)⟩

end Go.Proofs.Ytllnieknogficaa.K
namespace Go.Proofs.Ytllnieknogficaa.K
open Go.RowKit Go.Proofs.YtllnieknogficaaW.PrintWords Go.Proofs.YtllnieknogficaaW.PrintLast Go.Proofs.YtllnieknogficaaW.PrintMore
attribute [local go_sem] max2_int min2_int max_two min_two max_three min_three max_four min_four   -- for this text's walks alone
set_option linter.unusedVariables false
set_option linter.unusedSimpArgs false

/-! ### laws_heldIntSS: function 40 -/
def laws_heldIntSS.l0 : Nat → List (List Int) → Int → Int → Option (Int)
  | 0, _, _, _ => none
  | k + 1, x0, x1, x5 => if x5 < (x0.length : Int) then (if 0 ≤ x5 then ((laws_heldIntS.f k (rd_L2 x0 x5) x1).bind fun t433 => (if t433 < 0 then (some (-1)) else (laws_heldIntSS.l0 k x0 t433 (wrap64 (x5 + 1))))) else (none)) else (some x1)
def laws_heldIntSS.f (k : Nat) (l0 : List (List Int)) (a1 : Int) : Option (Int) := laws_heldIntSS.l0 k l0 a1 0
theorem laws_heldIntSS.mono_l : ∀ k, (∀ y0 y1 y2, LeO (laws_heldIntSS.l0 k y0 y1 y2) (laws_heldIntSS.l0 (k + 1) y0 y1 y2))
  | 0 => fun _ _ _ r h => by simp [laws_heldIntSS.l0] at h
  | k + 1 => by
    have ih0 := laws_heldIntSS.mono_l k
    · intro y0 y1 y2
      unfold laws_heldIntSS.l0
      repeat' first
      | (with_reducible exact ih0 _ _ _)
      | (with_reducible exact laws_heldIntS.mono _ _ _)
      | (with_reducible exact LeO.refl _)
      | (with_reducible exact LeO.none _)
      | (with_reducible refine LeO.ite ?_ ?_)
      | (with_reducible refine LeO.bind ?_ (fun _ => ?_))
      | exact ih0 _ _ _
      | exact laws_heldIntS.mono _ _ _
      | exact LeO.none _
      | refine LeO.ite ?_ ?_
      | refine LeO.bind ?_ (fun _ => ?_)
theorem laws_heldIntSS.mono : ∀ a0 a1 k, LeO (laws_heldIntSS.f k a0 a1) (laws_heldIntSS.f (k + 1) a0 a1) := by
  intro a0 a1 k
  have ih0 := laws_heldIntSS.mono_l k
  unfold laws_heldIntSS.f
  repeat' first
      | (with_reducible exact ih0 _ _ _)
      | (with_reducible exact laws_heldIntS.mono _ _ _)
      | (with_reducible exact LeO.refl _)
      | (with_reducible exact LeO.none _)
      | (with_reducible refine LeO.ite ?_ ?_)
      | (with_reducible refine LeO.bind ?_ (fun _ => ?_))
      | exact ih0 _ _ _
      | exact laws_heldIntS.mono _ _ _
      | exact LeO.none _
      | refine LeO.ite ?_ ?_
      | refine LeO.bind ?_ (fun _ => ?_)
set_option maxHeartbeats 8000000 in
set_option maxRecDepth 100000 in
theorem laws_heldIntSS.calls (k : Nat) (A0 : Option Addr) (c0 : Nat) (l0 : List (List Int)) (a1 : Int) (r : Int) (w : World) (hr0 : Kd.C (Kd.slice 3 (Kd.int .i64)) w A0 l0.length l0) (hc0 : l0.length ≤ c0) (h : laws_heldIntSS.f k l0 a1 = some r) :
    Calls Try.prog 40 #[.slice A0 l0.length c0, .int .i64 a1] w fun e w' => e = .returned (.int .i64 r) ∧ Drawn0 w w' := by
  have HR0 := Aside0.mk hr0
  have HC0 := Aside0.mk hc0
  clear hr0 hc0
  have H : (laws_heldIntSS.l0 k l0 a1 0) = some r := h
  clear h
  have H' := Aside0.mk H
  clear H
  go_enter Try.func40, Try.ntmps40
  go_wp2
  go_loopg [1, 5] k (fun kq v1 v5 w' => ∃ (x1_1 : Int) (x5_1 : Int), v1 = .int .i64 x1_1 ∧ v5 = .int .i64 x5_1 ∧ Aside0 (laws_heldIntSS.l0 kq l0 x1_1 x5_1 = some r) ∧ Aside0 (kq ≤ k) ∧ Drawn0 w w')
  case atStart => exact ⟨(a1), (0), (by first | rfl | (simp; done) | (simp [*]; done)), (by first | rfl | (simp; done) | (simp [*]; done)), H', ⟨Nat.le_refl _⟩, by repeat (first | exact Drawn0.refl _ | apply Drawn0.step)⟩
  case round =>
    clear H'
    try clear p2
    obtain ⟨x1_1, x5_1, rfl, rfl, HA, HK1, ⟨m1, rfl⟩⟩ := hrel
    cases gk with
    | zero => exact absurd HA.out (by simp [laws_heldIntSS.l0])
    | succ k1 =>
      have H := HA.out
      clear HA
      simp only [laws_heldIntSS.l0] at H
      by_cases c3 : x5_1 < (l0.length : Int)
      · rw [if_pos c3] at H
        have c3b0 : decide (x5_1 < (l0.length : Int)) = true := decide_eq_true c3
        clear c3
        by_cases c4 : 0 ≤ x5_1
        · rw [if_pos c4] at H
          have c4b0 : decide (0 ≤ x5_1) = true := decide_eq_true c4
          clear c4
          replace H := Option.bind_eq_some_iff.mp H
          obtain ⟨t433, A50, H⟩ := H
          replace H : (if t433 < 0 then (some (-1)) else (laws_heldIntSS.l0 k1 l0 t433 (wrap64 (x5_1 + 1)))) = some r := H
          have A5 := Aside0.mk A50
          clear A50
          by_cases c6 : t433 < 0
          · rw [if_pos c6] at H
            have c6b0 : decide (t433 < 0) = true := decide_eq_true c6
            clear c6
            obtain rfl := Option.some.inj H
            have p432 : 0 ≤ (x5_1 : Int) := of_decide_eq_true (by first | (with_reducible assumption) | assumption)
            have q432 : x5_1 < (l0.length : Int) := of_decide_eq_true (by first | (with_reducible assumption) | assumption)
            obtain ⟨ad432, A432_0, c432_0, e432, hx432_0, hl432_0, hi432_0⟩ := at_L2 HR0.out x5_1 p432 q432
            cases e432
            have HR432_0 := Aside0.mk hi432_0
            have HC432_0 := Aside0.mk hl432_0
            clear hi432_0 hl432_0
            replace p432 := eq_true p432
            replace q432 := eq_true q432
            go_wp2_with (first | ((with_reducible refine gate_callee (f := 47) rfl ?_); refine goesL_ (some 17) rfl rfl Try.func47 (by kernel_rfl) rfl #[.slice A432_0 (rd_L2 l0 x5_1).length c432_0, .int .i64 x1_1] rfl (by (try simp only [List.map_toArray, List.map_cons, List.map_nil]); first | done | rfl | (simp only [List.length_drop, List.length_take]; rfl)) ?_; (with_reducible refine (laws_heldIntS.calls k1 _ _ (rd_L2 l0 x5_1) x1_1 t433 _ ?side1 ?side2 A5.out).mono ?_); (case side1 => repeat (first | exact HR432_0.out | (with_reducible refine Kd.C_alloc ?_ _) | (with_reducible refine Kd.C_drewN ?_ _) | (with_reducible refine Kd.C_drew ?_))); (case side2 => exact HC432_0.out); rintro e w' ⟨rfl, ⟨nd, rfl⟩⟩; refine ⟨_, rfl, ?_⟩))
            go_ret
            exact ⟨by first | rfl | (simp; done) | (simp [*]; done), by repeat (first | exact Drawn0.refl _ | apply Drawn0.step)⟩
          · rw [if_neg c6] at H
            have c6b0 : decide (t433 < 0) = false := decide_eq_false c6
            clear c6
            have H' := Aside0.mk H
            clear H
            have p432 : 0 ≤ (x5_1 : Int) := of_decide_eq_true (by first | (with_reducible assumption) | assumption)
            have q432 : x5_1 < (l0.length : Int) := of_decide_eq_true (by first | (with_reducible assumption) | assumption)
            obtain ⟨ad432, A432_0, c432_0, e432, hx432_0, hl432_0, hi432_0⟩ := at_L2 HR0.out x5_1 p432 q432
            cases e432
            have HR432_0 := Aside0.mk hi432_0
            have HC432_0 := Aside0.mk hl432_0
            clear hi432_0 hl432_0
            replace p432 := eq_true p432
            replace q432 := eq_true q432
            go_wp2_with (first | ((with_reducible refine gate_callee (f := 47) rfl ?_); refine goesL_ (some 17) rfl rfl Try.func47 (by kernel_rfl) rfl #[.slice A432_0 (rd_L2 l0 x5_1).length c432_0, .int .i64 x1_1] rfl (by (try simp only [List.map_toArray, List.map_cons, List.map_nil]); first | done | rfl | (simp only [List.length_drop, List.length_take]; rfl)) ?_; (with_reducible refine (laws_heldIntS.calls k1 _ _ (rd_L2 l0 x5_1) x1_1 t433 _ ?side1 ?side2 A5.out).mono ?_); (case side1 => repeat (first | exact HR432_0.out | (with_reducible refine Kd.C_alloc ?_ _) | (with_reducible refine Kd.C_drewN ?_ _) | (with_reducible refine Kd.C_drew ?_))); (case side2 => exact HC432_0.out); rintro e w' ⟨rfl, ⟨nd, rfl⟩⟩; refine ⟨_, rfl, ?_⟩))
            go_roundg k1
            case measure => have := HK1.out; omega
            case rel => exact ⟨(t433), (wrap64 (x5_1 + 1)), (by first | rfl | (simp; done) | (simp [*]; done)), (by first | rfl | (simp; done) | (simp [*]; done)), H', ⟨by have := HK1.out; omega⟩, by repeat (first | exact Drawn0.refl _ | apply Drawn0.step)⟩
        · rw [if_neg c4] at H
          exact absurd H (by simp)
      · rw [if_neg c3] at H
        have c3b0 : decide (x5_1 < (l0.length : Int)) = false := decide_eq_false c3
        clear c3
        obtain rfl := Option.some.inj H
        go_wp2
        go_ret
        exact ⟨by first | rfl | (simp; done) | (simp [*]; done), by repeat (first | exact Drawn0.refl _ | apply Drawn0.step)⟩

end Go.Proofs.Ytllnieknogficaa.K
namespace Go.Proofs.Ytllnieknogficaa.K
open Go.RowKit Go.Proofs.YtllnieknogficaaW.PrintWords Go.Proofs.YtllnieknogficaaW.PrintLast Go.Proofs.YtllnieknogficaaW.PrintMore
attribute [local go_sem] max2_int min2_int max_two min_two max_three min_three max_four min_four   -- for this text's walks alone
set_option linter.unusedVariables false
set_option linter.unusedSimpArgs false

/-! ### laws_szIntS: function 124 -/
def laws_szIntS.f (l0 : List Int) (a1 : Int) : Option (Int) := if (wrap64 (a1 - (l0.length : Int))) < 0 then (some (-1)) else (some (wrap64 (a1 - (l0.length : Int))))
set_option maxHeartbeats 8000000 in
set_option maxRecDepth 100000 in
theorem laws_szIntS.calls (A0 : Option Addr) (c0 : Nat) (l0 : List Int) (a1 : Int) (r : Int) (w : World) (hr0 : Kd.C (Kd.int .i64) w A0 l0.length l0) (hc0 : l0.length ≤ c0) (h : laws_szIntS.f l0 a1 = some r) :
    Calls Try.prog 124 #[.slice A0 l0.length c0, .int .i64 a1] w fun e w' => e = .returned (.int .i64 r) ∧ Drawn0 w w' := by
  have HR0 := Aside0.mk hr0
  have HC0 := Aside0.mk hc0
  clear hr0 hc0
  have H : (if (wrap64 (a1 - (l0.length : Int))) < 0 then (some (-1)) else (some (wrap64 (a1 - (l0.length : Int))))) = some r := h
  clear h
  by_cases c3 : (wrap64 (a1 - (l0.length : Int))) < 0
  · rw [if_pos c3] at H
    have c3b0 : decide ((wrap64 (a1 - (l0.length : Int))) < 0) = true := decide_eq_true c3
    clear c3
    obtain rfl := Option.some.inj H
    go_enter Try.func124, Try.ntmps124
    go_wp2
    go_ret
    exact ⟨by first | rfl | (simp; done) | (simp [*]; done), by repeat (first | exact Drawn0.refl _ | apply Drawn0.step)⟩
  · rw [if_neg c3] at H
    have c3b0 : decide ((wrap64 (a1 - (l0.length : Int))) < 0) = false := decide_eq_false c3
    clear c3
    obtain rfl := Option.some.inj H
    go_enter Try.func124, Try.ntmps124
    go_wp2
    go_ret
    exact ⟨by first | rfl | (simp; done) | (simp [*]; done), by repeat (first | exact Drawn0.refl _ | apply Drawn0.step)⟩

end Go.Proofs.Ytllnieknogficaa.K
namespace Go.Proofs.Ytllnieknogficaa.K
open Go.RowKit Go.Proofs.YtllnieknogficaaW.PrintWords Go.Proofs.YtllnieknogficaaW.PrintLast Go.Proofs.YtllnieknogficaaW.PrintMore
attribute [local go_sem] max2_int min2_int max_two min_two max_three min_three max_four min_four   -- for this text's walks alone
set_option linter.unusedVariables false
set_option linter.unusedSimpArgs false

/-! ### laws_szIntSS: function 34 -/
def laws_szIntSS.l0 : Nat → List (List Int) → Int → Int → Option (Int)
  | 0, _, _, _ => none
  | k + 1, x0, x1, x5 => if x5 < (x0.length : Int) then (if 0 ≤ x5 then ((laws_szIntS.f (rd_L2 x0 x5) x1).bind fun t381 => (if t381 < 0 then (some (-1)) else (laws_szIntSS.l0 k x0 t381 (wrap64 (x5 + 1))))) else (none)) else (some x1)
def laws_szIntSS.f (k : Nat) (l0 : List (List Int)) (a1 : Int) : Option (Int) := if (wrap64 (a1 - (l0.length : Int))) < 0 then (some (-1)) else (laws_szIntSS.l0 k l0 (wrap64 (a1 - (l0.length : Int))) 0)
theorem laws_szIntSS.mono_l : ∀ k, (∀ y0 y1 y2, LeO (laws_szIntSS.l0 k y0 y1 y2) (laws_szIntSS.l0 (k + 1) y0 y1 y2))
  | 0 => fun _ _ _ r h => by simp [laws_szIntSS.l0] at h
  | k + 1 => by
    have ih0 := laws_szIntSS.mono_l k
    · intro y0 y1 y2
      unfold laws_szIntSS.l0
      repeat' first
      | (with_reducible exact ih0 _ _ _)
      | (with_reducible exact LeO.refl _)
      | (with_reducible exact LeO.none _)
      | (with_reducible refine LeO.ite ?_ ?_)
      | (with_reducible refine LeO.bind ?_ (fun _ => ?_))
      | exact ih0 _ _ _
      | exact LeO.none _
      | refine LeO.ite ?_ ?_
      | refine LeO.bind ?_ (fun _ => ?_)
theorem laws_szIntSS.mono : ∀ a0 a1 k, LeO (laws_szIntSS.f k a0 a1) (laws_szIntSS.f (k + 1) a0 a1) := by
  intro a0 a1 k
  have ih0 := laws_szIntSS.mono_l k
  unfold laws_szIntSS.f
  repeat' first
      | (with_reducible exact ih0 _ _ _)
      | (with_reducible exact LeO.refl _)
      | (with_reducible exact LeO.none _)
      | (with_reducible refine LeO.ite ?_ ?_)
      | (with_reducible refine LeO.bind ?_ (fun _ => ?_))
      | exact ih0 _ _ _
      | exact LeO.none _
      | refine LeO.ite ?_ ?_
      | refine LeO.bind ?_ (fun _ => ?_)
set_option maxHeartbeats 8000000 in
set_option maxRecDepth 100000 in
theorem laws_szIntSS.calls (k : Nat) (A0 : Option Addr) (c0 : Nat) (l0 : List (List Int)) (a1 : Int) (r : Int) (w : World) (hr0 : Kd.C (Kd.slice 3 (Kd.int .i64)) w A0 l0.length l0) (hc0 : l0.length ≤ c0) (h : laws_szIntSS.f k l0 a1 = some r) :
    Calls Try.prog 34 #[.slice A0 l0.length c0, .int .i64 a1] w fun e w' => e = .returned (.int .i64 r) ∧ Drawn0 w w' := by
  have HR0 := Aside0.mk hr0
  have HC0 := Aside0.mk hc0
  clear hr0 hc0
  have H : (if (wrap64 (a1 - (l0.length : Int))) < 0 then (some (-1)) else (laws_szIntSS.l0 k l0 (wrap64 (a1 - (l0.length : Int))) 0)) = some r := h
  clear h
  by_cases c3 : (wrap64 (a1 - (l0.length : Int))) < 0
  · rw [if_pos c3] at H
    have c3b0 : decide ((wrap64 (a1 - (l0.length : Int))) < 0) = true := decide_eq_true c3
    clear c3
    obtain rfl := Option.some.inj H
    go_enter Try.func34, Try.ntmps34
    go_wp2
    go_ret
    exact ⟨by first | rfl | (simp; done) | (simp [*]; done), by repeat (first | exact Drawn0.refl _ | apply Drawn0.step)⟩
  · rw [if_neg c3] at H
    have c3b0 : decide ((wrap64 (a1 - (l0.length : Int))) < 0) = false := decide_eq_false c3
    clear c3
    have H' := Aside0.mk H
    clear H
    go_enter Try.func34, Try.ntmps34
    go_wp2
    go_loopg [1, 5] k (fun kq v1 v5 w' => ∃ (x1_1 : Int) (x5_1 : Int), v1 = .int .i64 x1_1 ∧ v5 = .int .i64 x5_1 ∧ Aside0 (laws_szIntSS.l0 kq l0 x1_1 x5_1 = some r) ∧ Aside0 (kq ≤ k) ∧ Drawn0 w w')
    case atStart => exact ⟨(wrap64 (a1 - (l0.length : Int))), (0), (by first | rfl | (simp; done) | (simp [*]; done)), (by first | rfl | (simp; done) | (simp [*]; done)), H', ⟨Nat.le_refl _⟩, by repeat (first | exact Drawn0.refl _ | apply Drawn0.step)⟩
    case round =>
      clear H'
      try clear p2
      try clear c3
      try clear c3b0
      obtain ⟨x1_1, x5_1, rfl, rfl, HA, HK1, ⟨m1, rfl⟩⟩ := hrel
      cases gk with
      | zero => exact absurd HA.out (by simp [laws_szIntSS.l0])
      | succ k1 =>
        have H := HA.out
        clear HA
        simp only [laws_szIntSS.l0] at H
        by_cases c4 : x5_1 < (l0.length : Int)
        · rw [if_pos c4] at H
          have c4b0 : decide (x5_1 < (l0.length : Int)) = true := decide_eq_true c4
          clear c4
          by_cases c5 : 0 ≤ x5_1
          · rw [if_pos c5] at H
            have c5b0 : decide (0 ≤ x5_1) = true := decide_eq_true c5
            clear c5
            replace H := Option.bind_eq_some_iff.mp H
            obtain ⟨t381, A60, H⟩ := H
            replace H : (if t381 < 0 then (some (-1)) else (laws_szIntSS.l0 k1 l0 t381 (wrap64 (x5_1 + 1)))) = some r := H
            have A6 := Aside0.mk A60
            clear A60
            by_cases c7 : t381 < 0
            · rw [if_pos c7] at H
              have c7b0 : decide (t381 < 0) = true := decide_eq_true c7
              clear c7
              obtain rfl := Option.some.inj H
              have p380 : 0 ≤ (x5_1 : Int) := of_decide_eq_true (by first | (with_reducible assumption) | assumption)
              have q380 : x5_1 < (l0.length : Int) := of_decide_eq_true (by first | (with_reducible assumption) | assumption)
              obtain ⟨ad380, A380_0, c380_0, e380, hx380_0, hl380_0, hi380_0⟩ := at_L2 HR0.out x5_1 p380 q380
              cases e380
              have HR380_0 := Aside0.mk hi380_0
              have HC380_0 := Aside0.mk hl380_0
              clear hi380_0 hl380_0
              replace p380 := eq_true p380
              replace q380 := eq_true q380
              go_wp2_with (first | ((with_reducible refine gate_callee (f := 124) rfl ?_); refine goesL_ (some 23) rfl rfl Try.func124 (by kernel_rfl) rfl #[.slice A380_0 (rd_L2 l0 x5_1).length c380_0, .int .i64 x1_1] rfl (by (try simp only [List.map_toArray, List.map_cons, List.map_nil]); first | done | rfl | (simp only [List.length_drop, List.length_take]; rfl)) ?_; (with_reducible refine (laws_szIntS.calls _ _ (rd_L2 l0 x5_1) x1_1 t381 _ ?side1 ?side2 A6.out).mono ?_); (case side1 => repeat (first | exact HR380_0.out | (with_reducible refine Kd.C_alloc ?_ _) | (with_reducible refine Kd.C_drewN ?_ _) | (with_reducible refine Kd.C_drew ?_))); (case side2 => exact HC380_0.out); rintro e w' ⟨rfl, ⟨nd, rfl⟩⟩; refine ⟨_, rfl, ?_⟩))
              go_ret
              exact ⟨by first | rfl | (simp; done) | (simp [*]; done), by repeat (first | exact Drawn0.refl _ | apply Drawn0.step)⟩
            · rw [if_neg c7] at H
              have c7b0 : decide (t381 < 0) = false := decide_eq_false c7
              clear c7
              have H' := Aside0.mk H
              clear H
              have p380 : 0 ≤ (x5_1 : Int) := of_decide_eq_true (by first | (with_reducible assumption) | assumption)
              have q380 : x5_1 < (l0.length : Int) := of_decide_eq_true (by first | (with_reducible assumption) | assumption)
              obtain ⟨ad380, A380_0, c380_0, e380, hx380_0, hl380_0, hi380_0⟩ := at_L2 HR0.out x5_1 p380 q380
              cases e380
              have HR380_0 := Aside0.mk hi380_0
              have HC380_0 := Aside0.mk hl380_0
              clear hi380_0 hl380_0
              replace p380 := eq_true p380
              replace q380 := eq_true q380
              go_wp2_with (first | ((with_reducible refine gate_callee (f := 124) rfl ?_); refine goesL_ (some 23) rfl rfl Try.func124 (by kernel_rfl) rfl #[.slice A380_0 (rd_L2 l0 x5_1).length c380_0, .int .i64 x1_1] rfl (by (try simp only [List.map_toArray, List.map_cons, List.map_nil]); first | done | rfl | (simp only [List.length_drop, List.length_take]; rfl)) ?_; (with_reducible refine (laws_szIntS.calls _ _ (rd_L2 l0 x5_1) x1_1 t381 _ ?side1 ?side2 A6.out).mono ?_); (case side1 => repeat (first | exact HR380_0.out | (with_reducible refine Kd.C_alloc ?_ _) | (with_reducible refine Kd.C_drewN ?_ _) | (with_reducible refine Kd.C_drew ?_))); (case side2 => exact HC380_0.out); rintro e w' ⟨rfl, ⟨nd, rfl⟩⟩; refine ⟨_, rfl, ?_⟩))
              go_roundg k1
              case measure => have := HK1.out; omega
              case rel => exact ⟨(t381), (wrap64 (x5_1 + 1)), (by first | rfl | (simp; done) | (simp [*]; done)), (by first | rfl | (simp; done) | (simp [*]; done)), H', ⟨by have := HK1.out; omega⟩, by repeat (first | exact Drawn0.refl _ | apply Drawn0.step)⟩
          · rw [if_neg c5] at H
            exact absurd H (by simp)
        · rw [if_neg c4] at H
          have c4b0 : decide (x5_1 < (l0.length : Int)) = false := decide_eq_false c4
          clear c4
          obtain rfl := Option.some.inj H
          go_wp2
          go_ret
          exact ⟨by first | rfl | (simp; done) | (simp [*]; done), by repeat (first | exact Drawn0.refl _ | apply Drawn0.step)⟩

end Go.Proofs.Ytllnieknogficaa.K
namespace Go.Proofs.Ytllnieknogficaa.K
open Go.RowKit Go.Proofs.YtllnieknogficaaW.PrintWords Go.Proofs.YtllnieknogficaaW.PrintLast Go.Proofs.YtllnieknogficaaW.PrintMore
attribute [local go_sem] max2_int min2_int max_two min_two max_three min_three max_four min_four   -- for this text's walks alone
set_option linter.unusedVariables false
set_option linter.unusedSimpArgs false
/-! ### copies -/
theorem toIntS_l0 (l : List Int) (hl : l.length ≤ 4611686018427387904) : ∀ d (i : Nat) (x : List Int), i ≤ l.length → l.length - i = d → x.length = l.length → x.take i = l.take i → Ev (fun k => laws_toIntS.l0 k l x (i : Int)) l := by
  intro d
  induction d with
  | zero =>
    intro i x hi hd hx ht
    have : i = l.length := by omega
    subst this
    refine ev_succ ?_
    simp only [laws_toIntS.l0, if_neg (Int.lt_irrefl _)]
    refine ev_now _ _ ?_
    rw [List.take_of_length_le (by omega), List.take_length] at ht
    exact ht
  | succ d ih =>
    intro i x hi hd hx ht
    have hlt : i < l.length := by omega
    have h1 : (i : Int) < (l.length : Int) := by omega
    have h2 : (0 : Int) ≤ (i : Int) := by omega
    have h3 : (i : Int) < (x.length : Int) := by omega
    refine ev_succ ?_
    simp only [laws_toIntS.l0, if_pos h1, if_pos h2, if_pos h3, wrap64_nat_succ (show i < 9223372036854775807 by omega), Int.toNat_natCast, rd_nat l i hlt]
    refine ih (i + 1) _ (by omega) (by omega) (by simpa using hx) ?_
    rw [List.take_succ_eq_append_getElem (by simpa [hx] using hlt), List.take_succ_eq_append_getElem hlt, List.take_set_of_le (Nat.le_refl _), ht, List.getElem_set_self]
theorem toIntS_ev (l : List Int) (hl : l.length ≤ 1099511627776) : Ev (fun k => laws_toIntS.f k l) l := by
  unfold laws_toIntS.f
  have h1 : (0 : Int) ≤ (l.length : Int) := by omega
  have h2 : l.length ≤ 35184372088832 := by omega
  simp only [if_pos h1, if_pos h2, Int.toNat_natCast]
  exact toIntS_l0 l (by omega) l.length 0 (List.replicate l.length 0) (by omega) (by omega) (by simp) (by simp)
theorem toIntSS_l0 (l : List (List Int)) (hl : l.length ≤ 4611686018427387904) (hr : ∀ r ∈ l, r.length ≤ 1099511627776) : ∀ d (i : Nat) (x : List (List Int)), i ≤ l.length → l.length - i = d → x.length = l.length → x.take i = l.take i → Ev (fun k => laws_toIntSS.l0 k l x (i : Int)) l := by
  intro d
  induction d with
  | zero =>
    intro i x hi hd hx ht
    have : i = l.length := by omega
    subst this
    refine ev_succ ?_
    simp only [laws_toIntSS.l0, if_neg (Int.lt_irrefl _)]
    refine ev_now _ _ ?_
    rw [List.take_of_length_le (by omega), List.take_length] at ht
    exact ht
  | succ d ih =>
    intro i x hi hd hx ht
    have hlt : i < l.length := by omega
    have h1 : (i : Int) < (l.length : Int) := by omega
    have h2 : (0 : Int) ≤ (i : Int) := by omega
    have h3 : (i : Int) < (x.length : Int) := by omega
    refine ev_succ ?_
    simp only [laws_toIntSS.l0, if_pos h1, if_pos h2, if_pos h3, wrap64_nat_succ (show i < 9223372036854775807 by omega), Int.toNat_natCast, rdL_nat l i hlt]
    refine Ev.bind (toIntS_ev l[i] (hr _ (List.getElem_mem hlt))) ?_
    refine ih (i + 1) _ (by omega) (by omega) (by simpa using hx) ?_
    rw [List.take_succ_eq_append_getElem (by simpa [hx] using hlt), List.take_succ_eq_append_getElem hlt, List.take_set_of_le (Nat.le_refl _), ht, List.getElem_set_self]
theorem toIntSS_ev (l : List (List Int)) (hl : l.length ≤ 1099511627776) (hr : ∀ r ∈ l, r.length ≤ 1099511627776) : Ev (fun k => laws_toIntSS.f k l) l := by
  unfold laws_toIntSS.f
  have h1 : (0 : Int) ≤ (l.length : Int) := by omega
  have h2 : l.length ≤ 11728124029610 := by omega
  simp only [if_pos h1, if_pos h2, Int.toNat_natCast]
  exact toIntSS_l0 l (by omega) hr l.length 0 (List.replicate l.length []) (by omega) (by omega) (by simp) (by simp)
/-! ### equality -/
theorem eqIntS_l0 (l : List Int) (hl : l.length ≤ 4611686018427387904) : ∀ d (i : Nat), i ≤ l.length → l.length - i = d → Ev (fun k => laws_eqIntS.l0 k l l (i : Int)) true := by
  intro d
  induction d with
  | zero =>
    intro i hi hd
    have : i = l.length := by omega
    subst this
    refine ev_succ ?_
    simp only [laws_eqIntS.l0, if_neg (Int.lt_irrefl _)]
    exact ev_now _ _ rfl
  | succ d ih =>
    intro i hi hd
    have h1 : (i : Int) < (l.length : Int) := by omega
    have h2 : (0 : Int) ≤ (i : Int) := by omega
    refine ev_succ ?_
    simp only [laws_eqIntS.l0, if_pos h1, if_pos h2, if_true, wrap64_nat_succ (show i < 9223372036854775807 by omega)]
    exact ih (i + 1) (by omega) (by omega)
theorem eqIntS_ev (l : List Int) (hl : l.length ≤ 1099511627776) : Ev (fun k => laws_eqIntS.f k l l) true := by
  unfold laws_eqIntS.f
  simp only [if_true]
  exact eqIntS_l0 l (by omega) l.length 0 (by omega) (by omega)
theorem eqIntSS_l0 (l : List (List Int)) (hl : l.length ≤ 4611686018427387904) (hr : ∀ r ∈ l, r.length ≤ 1099511627776) : ∀ d (i : Nat), i ≤ l.length → l.length - i = d → Ev (fun k => laws_eqIntSS.l0 k l l (i : Int)) true := by
  intro d
  induction d with
  | zero =>
    intro i hi hd
    have : i = l.length := by omega
    subst this
    refine ev_succ ?_
    simp only [laws_eqIntSS.l0, if_neg (Int.lt_irrefl _)]
    exact ev_now _ _ rfl
  | succ d ih =>
    intro i hi hd
    have hlt : i < l.length := by omega
    have h1 : (i : Int) < (l.length : Int) := by omega
    have h2 : (0 : Int) ≤ (i : Int) := by omega
    refine ev_succ ?_
    simp only [laws_eqIntSS.l0, if_pos h1, if_pos h2, rdL_nat l i hlt, wrap64_nat_succ (show i < 9223372036854775807 by omega)]
    refine Ev.bind (eqIntS_ev l[i] (hr _ (List.getElem_mem hlt))) ?_
    simp only [if_true]
    exact ih (i + 1) (by omega) (by omega)
theorem eqIntSS_ev (l : List (List Int)) (hl : l.length ≤ 1099511627776) (hr : ∀ r ∈ l, r.length ≤ 1099511627776) : Ev (fun k => laws_eqIntSS.f k l l) true := by
  unfold laws_eqIntSS.f
  simp only [if_true]
  exact eqIntSS_l0 l (by omega) hr l.length 0 (by omega) (by omega)
/-! ### marks that are held -/
theorem heldIntS_l0 (a : Int) (n : Nat) (h0 : 0 ≤ a) (hl : a + (n : Int) ≤ 4611686018427387904) : ∀ d (i : Nat), i ≤ n → n - i = d → Ev (fun k => laws_heldIntS.l0 k (laws_markIntSS.row a n) (a + (i : Int)) (i : Int)) (a + (n : Int)) := by
  intro d
  induction d with
  | zero =>
    intro i hi hd
    have : i = n := by omega
    subst this
    refine ev_succ ?_
    simp only [laws_heldIntS.l0, laws_markIntSS.row_length, if_neg (Int.lt_irrefl _)]
    exact ev_now _ _ rfl
  | succ d ih =>
    intro i hi hd
    have h1 : (i : Int) < ((laws_markIntSS.row a n).length : Int) := by rw [laws_markIntSS.row_length]; omega
    have h2 : (0 : Int) ≤ (i : Int) := by omega
    have h3 : rd (laws_markIntSS.row a n) (i : Int) = a + (i : Int) := by rw [rd_nat _ i (by rw [laws_markIntSS.row_length]; omega)]; simp [laws_markIntSS.row]
    have h4 : wrap64 (a + (i : Int) + 1) = a + ((i + 1 : Nat) : Int) := by unfold wrap64; omega
    refine ev_succ ?_
    simp only [laws_heldIntS.l0, if_pos h1, if_pos h2, if_pos h3, h4, wrap64_nat_succ (show i < 9223372036854775807 by omega)]
    exact ih (i + 1) (by omega) (by omega)
theorem heldIntS_ev (a : Int) (n : Nat) (h0 : 0 ≤ a) (hl : a + (n : Int) ≤ 4611686018427387904) : Ev (fun k => laws_heldIntS.f k (laws_markIntSS.row a n) a) (a + (n : Int)) := by
  unfold laws_heldIntS.f
  have := heldIntS_l0 a n h0 hl n 0 (by omega) (by omega)
  simpa using this
theorem rows_at (a : Int) (l : List (List Int)) (i : Nat) (h : i < l.length) : (laws_markIntSS.rows a l)[i]'(by rw [laws_markIntSS.rows_length]; exact h) = laws_markIntSS.row (a + (laws_markIntSS.tot (l.take i) : Int)) l[i].length := by
  induction l generalizing a i with
  | nil => simp at h
  | cons r t ih =>
    cases i with
    | zero => simp [laws_markIntSS.rows, laws_markIntSS.tot]
    | succ i =>
      have h' : i < t.length := by simpa using h
      have := ih (a + (r.length : Int)) i h'
      simp only [laws_markIntSS.rows, List.getElem_cons_succ, List.take_succ_cons, laws_markIntSS.tot]
      rw [this]
      congr 1
      push_cast
      omega
theorem heldIntSS_l0 (a : Int) (l : List (List Int)) (h0 : 0 ≤ a) (hl : a + (laws_markIntSS.tot l : Int) ≤ 4611686018427387904) (hn : l.length ≤ 4611686018427387904) : ∀ d (i : Nat), i ≤ l.length → l.length - i = d →
    Ev (fun k => laws_heldIntSS.l0 k (laws_markIntSS.rows a l) (a + (laws_markIntSS.tot (l.take i) : Int)) (i : Int)) (a + (laws_markIntSS.tot l : Int)) := by
  intro d
  induction d with
  | zero =>
    intro i hi hd
    have : i = l.length := by omega
    subst this
    refine ev_succ ?_
    simp only [laws_heldIntSS.l0, laws_markIntSS.rows_length, if_neg (Int.lt_irrefl _), List.take_length]
    exact ev_now _ _ rfl
  | succ d ih =>
    intro i hi hd
    have hlt : i < l.length := by omega
    have h1 : (i : Int) < ((laws_markIntSS.rows a l).length : Int) := by rw [laws_markIntSS.rows_length]; omega
    have h2 : (0 : Int) ≤ (i : Int) := by omega
    have ht := laws_markIntSS.tot_take l i hlt
    have hle := laws_markIntSS.tot_le l (i + 1)
    have h3 : rd_L2 (laws_markIntSS.rows a l) (i : Int) = laws_markIntSS.row (a + (laws_markIntSS.tot (l.take i) : Int)) l[i].length := by rw [rdL_nat _ i (by rw [laws_markIntSS.rows_length]; exact hlt), rows_at a l i hlt]
    refine ev_succ ?_
    simp only [laws_heldIntSS.l0, if_pos h1, if_pos h2, h3, wrap64_nat_succ (show i < 9223372036854775807 by omega)]
    refine Ev.bind (heldIntS_ev _ _ (by omega) (by omega)) ?_
    have h5 : ¬ (a + (laws_markIntSS.tot (l.take i) : Int) + (l[i].length : Int) < 0) := by omega
    have h6 : a + (laws_markIntSS.tot (l.take i) : Int) + (l[i].length : Int) = a + (laws_markIntSS.tot (l.take (i + 1)) : Int) := by rw [ht]; push_cast; omega
    simp only [if_neg h5]
    rw [h6]
    exact ih (i + 1) (by omega) (by omega)
theorem heldIntSS_ev (a : Int) (l : List (List Int)) (h0 : 0 ≤ a) (hl : a + (laws_markIntSS.tot l : Int) ≤ 4611686018427387904) (hn : l.length ≤ 4611686018427387904) : Ev (fun k => laws_heldIntSS.f k (laws_markIntSS.rows a l) a) (a + (laws_markIntSS.tot l : Int)) := by
  unfold laws_heldIntSS.f
  have := heldIntSS_l0 a l h0 hl hn l.length 0 (by omega) (by omega)
  simpa [laws_markIntSS.tot] using this
/-! ### sizes -/
theorem szIntS_eq (l : List Int) (a : Int) (ha : -1 ≤ a) (ha2 : a ≤ 1048576) (hl : l.length ≤ 9223372036854775807) : laws_szIntS.f l a = some (if a - (l.length : Int) < 0 then -1 else a - (l.length : Int)) := by
  unfold laws_szIntS.f
  rw [wrap64_id (by omega) (by omega)]
  split <;> rfl
/-- It comes to something; if that is not negative, there is little. -/
theorem szIntSS_l0 (l : List (List Int)) (hl : l.length ≤ 9223372036854775807) (hr : ∀ r ∈ l, r.length ≤ 9223372036854775807) : ∀ d (i : Nat) (a : Int), i ≤ l.length → l.length - i = d → 0 ≤ a → a ≤ 1048576 →
    ∃ r, Ev (fun k => laws_szIntSS.l0 k l a (i : Int)) r ∧ (0 ≤ r → (laws_markIntSS.tot (l.drop i) : Int) ≤ a) ∧ (¬ 0 ≤ r → r = -1) := by
  intro d
  induction d with
  | zero =>
    intro i a hi hd h0 ha
    have : i = l.length := by omega
    subst this
    refine ⟨a, ev_succ ?_, fun _ => ?_, fun h => absurd h0 h⟩
    · simp only [laws_szIntSS.l0, if_neg (Int.lt_irrefl _)]
      exact ev_now _ _ rfl
    · rw [List.drop_length]; simpa [laws_markIntSS.tot] using h0
  | succ d ih =>
    intro i a hi hd h0 ha
    have hlt : i < l.length := by omega
    have h1 : (i : Int) < (l.length : Int) := by omega
    have h2 : (0 : Int) ≤ (i : Int) := by omega
    have hs := szIntS_eq l[i] a (by omega) ha (hr _ (List.getElem_mem hlt))
    by_cases hc : a - (l[i].length : Int) < 0
    · refine ⟨-1, ev_succ ?_, fun h => by omega, fun _ => rfl⟩
      simp only [laws_szIntSS.l0, if_pos h1, if_pos h2, rdL_nat l i hlt, hs, if_pos hc, Option.bind_some, if_pos (show (-1 : Int) < 0 by omega)]
      exact ev_now _ _ rfl
    · obtain ⟨r, hE, hp, hq⟩ := ih (i + 1) (a - (l[i].length : Int)) (by omega) (by omega) (by omega) (by omega)
      refine ⟨r, ev_succ ?_, fun h => ?_, hq⟩
      · simp only [laws_szIntSS.l0, if_pos h1, if_pos h2, rdL_nat l i hlt, hs, if_neg hc, Option.bind_some, wrap64_nat_succ (show i < 9223372036854775807 by omega)]
        exact hE
      · rw [List.drop_eq_getElem_cons hlt]
        have := hp h
        simp only [laws_markIntSS.tot]
        push_cast
        omega
theorem szIntSS_ev (l : List (List Int)) (a : Int) (h0 : 0 ≤ a) (ha : a ≤ 1048576) (hl : l.length ≤ 9223372036854775807) (hr : ∀ r ∈ l, r.length ≤ 9223372036854775807) :
    ∃ r, Ev (fun k => laws_szIntSS.f k l a) r ∧ (0 ≤ r → (laws_markIntSS.tot l : Int) + (l.length : Int) ≤ a) ∧ (¬ 0 ≤ r → r = -1) := by
  unfold laws_szIntSS.f
  rw [wrap64_id (by omega) (by omega)]
  by_cases hc : a - (l.length : Int) < 0
  · exact ⟨-1, by simp only [if_pos hc]; exact ev_now _ _ rfl, fun h => by omega, fun _ => rfl⟩
  · obtain ⟨r, hE, hp, hq⟩ := szIntSS_l0 l hl hr l.length 0 (a - (l.length : Int)) (by omega) (by omega) (by omega) (by omega)
    refine ⟨r, ?_, fun h => ?_, hq⟩
    · simp only [if_neg hc]; exact hE
    · have := hp h
      rw [List.drop_zero] at this
      omega
theorem row_le_tot (l : List (List Int)) (r : List Int) (h : r ∈ l) : r.length ≤ laws_markIntSS.tot l := by
  induction l with
  | nil => simp at h
  | cons x t ih =>
    rcases List.mem_cons.1 h with h | h
    · subst h; simp [laws_markIntSS.tot]
    · have := ih h; simp [laws_markIntSS.tot]; omega
/-- heldIntSS over what was marked, its length as the walk has it. -/
theorem held_at (k : Nat) (A : Option Addr) (c : Nat) (R : List (List Int)) (q : Int) (w : World) (h : laws_heldIntSS.f k (laws_markIntSS.rows 1 R) 1 = some q) (hc : R.length ≤ c) (hr : Kd.C (Kd.slice 3 (Kd.int .i64)) w A (laws_markIntSS.rows 1 R).length (laws_markIntSS.rows 1 R)) :
    Calls Try.prog 40 #[.slice A R.length c, .int .i64 1] w fun e w' => e = .returned (.int .i64 q) ∧ Drawn0 w w' := by
  have := laws_heldIntSS.calls k A c (laws_markIntSS.rows 1 R) 1 q w hr (by rw [laws_markIntSS.rows_length]; exact hc) h
  rwa [laws_markIntSS.rows_length] at this
end Go.Proofs.Ytllnieknogficaa.K
namespace Go.Proofs.Ytllnieknogficaa.K
open Go.RowKit Go.Proofs.YtllnieknogficaaW.PrintWords Go.Proofs.YtllnieknogficaaW.PrintLast Go.Proofs.YtllnieknogficaaW.PrintMore
attribute [local go_sem] max2_int min2_int max_two min_two max_three min_three max_four min_four   -- for this text's walks alone
set_option linter.unusedVariables false
set_option linter.unusedSimpArgs false
theorem toIntS_evS (l : List Int) (hl : l.length ≤ 1099511627776) : Ev (fun k => laws_toIntS.f k l) l := toIntS_ev l hl
theorem eqIntS_evS (l : List Int) (hl : l.length ≤ 1099511627776) : Ev (fun k => laws_eqIntS.f k l l) true := eqIntS_ev l hl
theorem markIntS_ev (l : List Int) (a : Int) (h0 : 0 ≤ a) (hl : a + (l.length : Int) ≤ 4611686018427387904) : Ev (fun k => laws_markIntS.f k l a) (a + (l.length : Int), laws_markIntSS.row a l.length) := by
  refine ⟨l.length + 1, fun k hk => ?_⟩
  have h := laws_markIntSS.marks l a h0 hl l.length k 0 (by omega) (by omega) (by omega)
  simpa [laws_markIntS.f, laws_markIntSS.row] using h
theorem heldIntS_evS (a : Int) (n : Nat) (h0 : 0 ≤ a) (hl : a + (n : Int) ≤ 4611686018427387904) : Ev (fun k => laws_heldIntS.f k (laws_markIntSS.row a n) a) (a + (n : Int)) := heldIntS_ev a n h0 hl
/-- heldIntS over what was marked, its length as the walk has it. -/
theorem heldS_at (k : Nat) (A : Option Addr) (c : Nat) (R : List Int) (q : Int) (w : World) (h : laws_heldIntS.f k (laws_markIntSS.row 1 R.length) 1 = some q) (hc : R.length ≤ c) (hr : Kd.C (Kd.int .i64) w A (laws_markIntSS.row 1 R.length).length (laws_markIntSS.row 1 R.length)) :
    Calls Try.prog 47 #[.slice A R.length c, .int .i64 1] w fun e w' => e = .returned (.int .i64 q) ∧ Drawn0 w w' := by
  have := laws_heldIntS.calls k A c (laws_markIntSS.row 1 R.length) 1 q w hr (by rw [laws_markIntSS.row_length]; exact hc) h
  rwa [laws_markIntSS.row_length] at this
end Go.Proofs.Ytllnieknogficaa.K
namespace Go.Proofs.Ytllnieknogficaa.K
open Go.RowKit Go.Proofs.YtllnieknogficaaW.PrintWords Go.Proofs.YtllnieknogficaaW.PrintLast Go.Proofs.YtllnieknogficaaW.PrintMore
attribute [local go_sem] max2_int min2_int max_two min_two max_three min_three max_four min_four   -- for this text's walks alone
set_option linter.unusedVariables false
set_option linter.unusedSimpArgs false

/-! ### laws_toGift: function 43 -/
def laws_toGift.f (a0_0 : Int) (a0_1 : Int) (a0_2 : Int) : Option (Int × Int × Int) := some (a0_0, a0_1, a0_2)
set_option maxHeartbeats 8000000 in
set_option maxRecDepth 100000 in
theorem laws_toGift.calls (a0_0 : Int) (a0_1 : Int) (a0_2 : Int) (r1 : Int) (r2 : Int) (r3 : Int) (w : World) (h : laws_toGift.f a0_0 a0_1 a0_2 = some (r1, r2, r3)) :
    Calls Try.prog 43 #[.agg #[.int .i64 a0_0, .int .i64 a0_1, .int .i64 a0_2]] w fun e w' => e = .returned (.agg #[.int .i64 r1, .int .i64 r2, .int .i64 r3]) ∧ Below w.heap.size w w' := by
  have hu49 := Try.underlying49
  have hu52 := Try.underlying52
  have HB := Aside0.mk (Below.refl w.heap.size w)
  have H : (some (a0_0, a0_1, a0_2)) = some (r1, r2, r3) := h
  clear h
  simp only [Option.some.injEq, Prod.mk.injEq] at H
  obtain ⟨rfl, rfl, rfl⟩ := H
  go_enter Try.func43, Try.ntmps43
  go_wp2_with (first | ((with_reducible refine gate_dst (N := 1) rfl ?_); refine box_event ?hg (N := 1) ?hd (cs := #[.int .i64 a0_0, .int .i64 a0_1, .int .i64 a0_2]) (t := 49) ?hr ?_; (case hd => rfl); (case hg => rfl); (case hr => first | (go_simp; done) | (go_simp; rfl)); intro gb507 hg w2 hbox hb; have n0_ := Aside0.mk (below_step (by repeat (first | (with_reducible first | exact HB.out | apply below_alloc | apply pw_below_drewN | apply below_drew1) | exact HB.out)) hb); have n1_ := Aside0.mk (hbox); have n2_ := Aside0.mk ((by rw [hg]; exact (below_size (by repeat (first | (with_reducible first | exact HB.out | apply below_alloc | apply pw_below_drewN | apply below_drew1) | exact HB.out))) : w.heap.size ≤ gb507)); have n3_ := Aside0.mk ((by rw [hg]; exact (below_size (by repeat (first | (with_reducible first | exact HB.out | apply below_alloc | apply pw_below_drewN | apply below_drew1) | exact HB.out))) : w.heap.size ≤ gb507)); clear HB; have HB := n0_; have BK507 := n1_; have GW507 := n2_; have GE507 := n3_; clear n0_ n1_ n2_ n3_; clear hb hbox hg) | ((with_reducible refine gate_dst (N := 2) rfl ?_); refine box_event ?hg (N := 2) ?hd (cs := #[.int .i64 0, .int .i64 0, .int .i64 0]) (t := 52) ?hr ?_; (case hd => rfl); (case hg => rfl); (case hr => first | (go_simp; done) | (go_simp; rfl)); intro gb508 hg w3 hbox hb; have n0_ := Aside0.mk (blk_below (g := gb507) (o := .cells #[.int .i64 a0_0, .int .i64 a0_1, .int .i64 a0_2] 49 (0, 0)) (by (with_reducible repeat (first | refine blk_drewN ?_ _ | refine blk_drew ?_ | refine blk_alloc ?_ _)); exact BK507.out) hb); have n1_ := Aside0.mk (below_step (by repeat (first | (with_reducible first | exact HB.out | apply below_alloc | apply pw_below_drewN | apply below_drew1 | refine below_set ?_ GE507.out) | exact HB.out)) hb); have n2_ := Aside0.mk (hbox); have n3_ := Aside0.mk ((by rw [hg]; exact (below_size (by repeat (first | (with_reducible first | exact HB.out | apply below_alloc | apply pw_below_drewN | apply below_drew1 | refine below_set ?_ GE507.out) | exact HB.out))) : w.heap.size ≤ gb508)); have n4_ := Aside0.mk ((by rw [hg]; exact (below_size (by repeat (first | (with_reducible first | exact HB.out | apply below_alloc | apply pw_below_drewN | apply below_drew1 | refine below_set ?_ GE507.out) | exact HB.out))) : w.heap.size ≤ gb508)); have n5_ := Aside0.mk ((by rw [hg]; exact Nat.ne_of_lt (blk_lt (g := gb507) (o := .cells #[.int .i64 a0_0, .int .i64 a0_1, .int .i64 a0_2] 49 (0, 0)) (by (with_reducible repeat (first | refine blk_drewN ?_ _ | refine blk_drew ?_ | refine blk_alloc ?_ _)); exact BK507.out)) : gb507 ≠ gb508)); have n6_ := Aside0.mk ((by rw [hg]; exact Nat.ne_of_gt (blk_lt (g := gb507) (o := .cells #[.int .i64 a0_0, .int .i64 a0_1, .int .i64 a0_2] 49 (0, 0)) (by (with_reducible repeat (first | refine blk_drewN ?_ _ | refine blk_drew ?_ | refine blk_alloc ?_ _)); exact BK507.out)) : gb508 ≠ gb507)); clear BK507; clear HB; have BK507 := n0_; have HB := n1_; have BK508 := n2_; have GW508 := n3_; have GE508 := n4_; have NB507_508 := n5_; have NB508_507 := n6_; clear n0_ n1_ n2_ n3_ n4_ n5_ n6_; clear hb hbox hg) | ((with_reducible refine gate_dst (N := 3) rfl ?_); refine box_event ?hg (N := 3) ?hd (cs := #[.int .i64 0, .int .i64 0, .int .i64 0]) (t := 52) ?hr ?_; (case hd => rfl); (case hg => rfl); (case hr => first | (go_simp; done) | (go_simp; rfl)); intro gb509 hg w4 hbox hb; have n0_ := Aside0.mk (blk_below (g := gb507) (o := .cells #[.int .i64 a0_0, .int .i64 a0_1, .int .i64 a0_2] 49 (0, 0)) (by (with_reducible repeat (first | refine blk_drewN ?_ _ | refine blk_drew ?_ | refine blk_alloc ?_ _)); exact BK507.out) hb); have n1_ := Aside0.mk (blk_below (g := gb508) (o := .cells #[.int .i64 0, .int .i64 0, .int .i64 0] 52 (0, 0)) (by (with_reducible repeat (first | refine blk_drewN ?_ _ | refine blk_drew ?_ | refine blk_alloc ?_ _)); exact BK508.out) hb); have n2_ := Aside0.mk (below_step (by repeat (first | (with_reducible first | exact HB.out | apply below_alloc | apply pw_below_drewN | apply below_drew1 | refine below_set ?_ GE507.out | refine below_set ?_ GE508.out) | exact HB.out)) hb); have n3_ := Aside0.mk (hbox); have n4_ := Aside0.mk ((by rw [hg]; exact (below_size (by repeat (first | (with_reducible first | exact HB.out | apply below_alloc | apply pw_below_drewN | apply below_drew1 | refine below_set ?_ GE507.out | refine below_set ?_ GE508.out) | exact HB.out))) : w.heap.size ≤ gb509)); have n5_ := Aside0.mk ((by rw [hg]; exact (below_size (by repeat (first | (with_reducible first | exact HB.out | apply below_alloc | apply pw_below_drewN | apply below_drew1 | refine below_set ?_ GE507.out | refine below_set ?_ GE508.out) | exact HB.out))) : w.heap.size ≤ gb509)); have n6_ := Aside0.mk ((by rw [hg]; exact Nat.ne_of_lt (blk_lt (g := gb507) (o := .cells #[.int .i64 a0_0, .int .i64 a0_1, .int .i64 a0_2] 49 (0, 0)) (by (with_reducible repeat (first | refine blk_drewN ?_ _ | refine blk_drew ?_ | refine blk_alloc ?_ _)); exact BK507.out)) : gb507 ≠ gb509)); have n7_ := Aside0.mk ((by rw [hg]; exact Nat.ne_of_gt (blk_lt (g := gb507) (o := .cells #[.int .i64 a0_0, .int .i64 a0_1, .int .i64 a0_2] 49 (0, 0)) (by (with_reducible repeat (first | refine blk_drewN ?_ _ | refine blk_drew ?_ | refine blk_alloc ?_ _)); exact BK507.out)) : gb509 ≠ gb507)); have n8_ := Aside0.mk ((by rw [hg]; exact Nat.ne_of_lt (blk_lt (g := gb508) (o := .cells #[.int .i64 0, .int .i64 0, .int .i64 0] 52 (0, 0)) (by (with_reducible repeat (first | refine blk_drewN ?_ _ | refine blk_drew ?_ | refine blk_alloc ?_ _)); exact BK508.out)) : gb508 ≠ gb509)); have n9_ := Aside0.mk ((by rw [hg]; exact Nat.ne_of_gt (blk_lt (g := gb508) (o := .cells #[.int .i64 0, .int .i64 0, .int .i64 0] 52 (0, 0)) (by (with_reducible repeat (first | refine blk_drewN ?_ _ | refine blk_drew ?_ | refine blk_alloc ?_ _)); exact BK508.out)) : gb509 ≠ gb508)); clear BK507; clear BK508; clear HB; have BK507 := n0_; have BK508 := n1_; have HB := n2_; have BK509 := n3_; have GW509 := n4_; have GE509 := n5_; have NB507_509 := n6_; have NB509_507 := n7_; have NB508_509 := n8_; have NB509_508 := n9_; clear n0_ n1_ n2_ n3_ n4_ n5_ n6_ n7_ n8_ n9_; clear hb hbox hg; have hnb5 := NB507_508.out; have hnc5 := NB508_507.out; have hnb6 := NB507_509.out; have hnc6 := NB509_507.out; have hcz7_0 : w4.cell? ⟨gb507, 0, none⟩ = some (.int .i64 a0_0) := (blk_cell BK507.out 0).trans rfl; have hcz7_1 : w4.cell? ⟨gb507, 1, none⟩ = some (.int .i64 a0_1) := (blk_cell BK507.out 1).trans rfl; have hcz7_2 : w4.cell? ⟨gb507, 2, none⟩ = some (.int .i64 a0_2) := (blk_cell BK507.out 2).trans rfl; have hfz7_0 := blk_frozen BK507.out 0; have hfz7_1 := blk_frozen BK507.out 1; have hfz7_2 := blk_frozen BK507.out 2; have hnb8 := NB509_508.out; have hnc8 := NB508_509.out; have hcz9_0 : w4.cell? ⟨gb509, 0, none⟩ = some (.int .i64 0) := (blk_cell BK509.out 0).trans rfl; have hcz9_1 : w4.cell? ⟨gb509, 1, none⟩ = some (.int .i64 0) := (blk_cell BK509.out 1).trans rfl; have hcz9_2 : w4.cell? ⟨gb509, 2, none⟩ = some (.int .i64 0) := (blk_cell BK509.out 2).trans rfl; have hfz9_0 := blk_frozen BK509.out 0; have hfz9_1 := blk_frozen BK509.out 1; have hfz9_2 := blk_frozen BK509.out 2; have hcz10_0 : w4.cell? ⟨gb508, 0, none⟩ = some (.int .i64 0) := (blk_cell BK508.out 0).trans rfl; have hcz10_1 : w4.cell? ⟨gb508, 1, none⟩ = some (.int .i64 0) := (blk_cell BK508.out 1).trans rfl; have hcz10_2 : w4.cell? ⟨gb508, 2, none⟩ = some (.int .i64 0) := (blk_cell BK508.out 2).trans rfl; have hfz10_0 := blk_frozen BK508.out 0; have hfz10_1 := blk_frozen BK508.out 1; have hfz10_2 := blk_frozen BK508.out 2))
  refine bodyPost_ret (results_cell_row rfl _ _ gb508 52 #[.int .i64 a0_0, .int .i64 a0_1, .int .i64 a0_2] (0, 0) _ rfl (by (with_reducible repeat (first | refine blk_drewN ?_ _ | refine blk_drew ?_ | refine blk_alloc ?_ _)); refine blk_put (cs := #[.int .i64 a0_0, .int .i64 a0_1, .int .i64 0]) ?_ 2 _ rfl; (with_reducible repeat (first | refine blk_drewN ?_ _ | refine blk_drew ?_ | refine blk_alloc ?_ _)); refine blk_put (cs := #[.int .i64 a0_0, .int .i64 0, .int .i64 0]) ?_ 1 _ rfl; (with_reducible repeat (first | refine blk_drewN ?_ _ | refine blk_drew ?_ | refine blk_alloc ?_ _)); refine blk_put (cs := #[.int .i64 0, .int .i64 0, .int .i64 0]) ?_ 0 _ rfl; (with_reducible repeat (first | refine blk_drewN ?_ _ | refine blk_drew ?_ | refine blk_alloc ?_ _)); refine blk_far ?_ NB508_509.out _; (with_reducible repeat (first | refine blk_drewN ?_ _ | refine blk_drew ?_ | refine blk_alloc ?_ _)); refine blk_far ?_ NB508_509.out _; (with_reducible repeat (first | refine blk_drewN ?_ _ | refine blk_drew ?_ | refine blk_alloc ?_ _)); refine blk_far ?_ NB508_509.out _; (with_reducible repeat (first | refine blk_drewN ?_ _ | refine blk_drew ?_ | refine blk_alloc ?_ _)); exact BK508.out) Try.underlying52 rfl (by kernel_rfl)) rfl ?_
  exact ⟨by first | rfl | (simp [errW_none, errW_some] <;> rfl) | (simp [*, errW_none, errW_some] <;> rfl), by repeat (first | (with_reducible first | exact HB.out | apply below_alloc | apply pw_below_drewN | apply below_drew1 | refine below_set ?_ GE507.out | refine below_set ?_ GE508.out | refine below_set ?_ GE509.out) | exact HB.out)⟩

end Go.Proofs.Ytllnieknogficaa.K
namespace Go.Proofs.Ytllnieknogficaa.K
open Go.RowKit Go.Proofs.YtllnieknogficaaW.PrintWords Go.Proofs.YtllnieknogficaaW.PrintLast Go.Proofs.YtllnieknogficaaW.PrintMore
attribute [local go_sem] max2_int min2_int max_two min_two max_three min_three max_four min_four   -- for this text's walks alone
set_option linter.unusedVariables false
set_option linter.unusedSimpArgs false
set_option maxHeartbeats 4000000 in
set_option maxRecDepth 100000 in
theorem FnExactGiftTerms_walk (A0 : Option Addr) (c0 : Nat) (l0 : List Int) (g1_0 g1_1 g1_2 : Int) (A2 : Option Addr) (c2 : Nat) (l2 : List Int) (w : World) (hr0 : Kd.C (Kd.int .i64) w A0 l0.length l0) (hc0 : l0.length ≤ c0) (hw0 : ∀ x ∈ l0, (Lit.int .i64 x).wf = true) (wa1 : (Lit.int .i64 g1_0).wf = true) (wb1 : (Lit.int .i64 g1_1).wf = true) (wd1 : (Lit.int .i64 g1_2).wf = true) (hr2 : Kd.C (Kd.int .i64) w A2 l2.length l2) (hc2 : l2.length ≤ c2) (hw2 : ∀ x ∈ l2, (Lit.int .i64 x).wf = true) :
    Calls Try.prog 5 #[.slice A0 l0.length c0, .agg #[.int .i64 g1_0, .int .i64 g1_1, .int .i64 g1_2], .slice A2 l2.length c2] w fun e w' => e = .returned (.bool true) ∧ Below w.heap.size w w' := by
  have HR0 := Aside0.mk hr0
  have HC0 := Aside0.mk hc0
  have HR2 := Aside0.mk hr2
  have HC2 := Aside0.mk hc2
  by_cases hs0 : l0.length ≤ 1048576
  rotate_left
  · have hs0' : decide (1048576 < l0.length) = true := decide_eq_true (by omega)
    have HB := Aside0.mk (Below.refl w.heap.size w)
    go_enter Try.func5, Try.ntmps5
    go_wp2
    go_ret
    first | exact ⟨rfl, HB.out⟩ | exact ⟨rfl, below_alloc HB.out _⟩
  by_cases hs2 : l2.length ≤ 1048576
  rotate_left
  · have hs2' : decide (1048576 < l2.length) = true := decide_eq_true (by omega)
    have HB := Aside0.mk (Below.refl w.heap.size w)
    go_enter Try.func5, Try.ntmps5
    go_wp2
    go_ret
    first | exact ⟨rfl, HB.out⟩ | exact ⟨rfl, below_alloc HB.out _⟩
  obtain ⟨R, b1, hPW, hPG, hR1⟩ := GiftTerms_pure l0 g1_0 g1_1 g1_2 l2 hs0 hw0 wa1 wb1 wd1 hs2 hw2
  obtain ⟨kw, hW⟩ := hPW.rounds
  obtain ⟨kg, hG⟩ := hPG.rounds
  have HW := Aside0.mk hW
  have HG := Aside0.mk hG
  clear hW hG hPW hPG
  obtain ⟨kt0, hT0⟩ := (toIntS_evS l0 (by omega)).rounds
  obtain ⟨kx0, hX0⟩ := (eqIntS_evS l0 (by omega)).rounds
  have HT0 := Aside0.mk hT0
  have HX0 := Aside0.mk hX0
  clear hT0 hX0
  have HT1 := Aside0.mk (show laws_toGift.f g1_0 g1_1 g1_2 = some (g1_0, g1_1, g1_2) from rfl)
  obtain ⟨kt2, hT2⟩ := (toIntS_evS l2 (by omega)).rounds
  obtain ⟨kx2, hX2⟩ := (eqIntS_evS l2 (by omega)).rounds
  have HT2 := Aside0.mk hT2
  have HX2 := Aside0.mk hX2
  clear hT2 hX2
  have hk0 : 1 + (l0.length : Int) ≤ 4611686018427387904 := by omega
  have hl0 : 0 ≤ 1 + (l0.length : Int) := by omega
  obtain ⟨km0, hM0⟩ := (markIntS_ev l0 (1) (by omega) (by omega)).rounds
  have Mx0 := Aside0.mk hM0
  clear hM0
  clear hk0
  have hk2 : 1 + (l0.length : Int) + (l2.length : Int) ≤ 4611686018427387904 := by omega
  have hl2 : 0 ≤ 1 + (l0.length : Int) + (l2.length : Int) := by omega
  obtain ⟨km2, hM2⟩ := (markIntS_ev l2 (1 + (l0.length : Int)) (by omega) (by omega)).rounds
  have Mx2 := Aside0.mk hM2
  clear hM2
  clear hk2
  have hkR : 1 + (R.length : Int) ≤ 4611686018427387904 := by omega
  have hlR : 0 ≤ 1 + (R.length : Int) := by omega
  obtain ⟨km, hM⟩ := (markIntS_ev R 1 (by omega) (by omega)).rounds
  have Mg := Aside0.mk hM
  clear hM
  obtain ⟨kh, hH⟩ := (heldIntS_evS 1 R.length (by omega) (by omega)).rounds
  obtain ⟨ke, hE⟩ := (eqIntS_evS R (by omega)).rounds
  have HH := Aside0.mk hH
  have HE := Aside0.mk hE
  clear hH hE hkR
  clear hR1 hw0 hr0 hc0 wa1 wb1 wd1 hw2 hr2 hc2
  have hs0' : decide (1048576 < l0.length) = false := decide_eq_false (by omega)
  have hs2' : decide (1048576 < l2.length) = false := decide_eq_false (by omega)
  have HB := Aside0.mk (Below.refl w.heap.size w)
  go_enter Try.func5, Try.ntmps5
  go_wp2_with ((with_reducible refine gate_dst (N := 4) rfl ?_); refine box_event ?hg (N := 4) ?hd (cs := #[.int .i64 g1_0, .int .i64 g1_1, .int .i64 g1_2]) (t := 49) ?hr ?_; (case hd => rfl); (case hg => rfl); (case hr => first | (go_simp; done) | (go_simp; rfl)); intro gb hg_ wb hx_ hb_; have GB := Aside0.mk hx_; have KB := Aside0.mk hb_; clear hg_ hx_ hb_ HB; apply StopI)
  have hu := Try.underlying49
  have cb0 : wb.cell? ⟨gb, 0, none⟩ = some (.int .i64 g1_0) := (blk_cell GB.out 0).trans rfl
  have cb1 : wb.cell? ⟨gb, 1, none⟩ = some (.int .i64 g1_1) := (blk_cell GB.out 1).trans rfl
  have cb2 : wb.cell? ⟨gb, 2, none⟩ = some (.int .i64 g1_2) := (blk_cell GB.out 2).trans rfl
  have n_ := Aside0.mk (Kd.C_below HR0.out KB.out); clear HR0; have HR0 := n_; clear n_
  have n_ := Aside0.mk (Kd.C_below HR2.out KB.out); clear HR2; have HR2 := n_; clear n_
  have KEEP := Aside0.mk (show ∀ w', Below wb.heap.size wb w' → w'.cell? ⟨gb, 0, none⟩ = some (.int .i64 g1_0) ∧ w'.cell? ⟨gb, 1, none⟩ = some (.int .i64 g1_1) ∧ w'.cell? ⟨gb, 2, none⟩ = some (.int .i64 g1_2) from fun w' hb_ => ⟨pw_cell_below hb_ cb0, pw_cell_below hb_ cb1, pw_cell_below hb_ cb2⟩)
  have HB := Aside0.mk (Below.refl wb.heap.size wb)
  unfold Stop
  go_wp2_with fail
  have n_ := Aside0.mk (below_drew HB.out); clear HB; have HB := n_; clear n_
  go_region_held3 (fun w' => w'.cell? ⟨gb, 0, none⟩ = some (.int .i64 g1_0) ∧ w'.cell? ⟨gb, 1, none⟩ = some (.int .i64 g1_1) ∧ w'.cell? ⟨gb, 2, none⟩ = some (.int .i64 g1_2)) ((refine KEEP.out _ ?_; first | exact HB.out | exact below_drew HB.out)) (first | (go_at_call 42; (with_reducible refine (laws_toIntS.calls kt0 _ _ l0 l0 _ (Kd.C_below HR0.out HB.out) HC0.out HT0.out).mono ?_); rintro e w1 ⟨y0, rfl, ho0, hb⟩; have OY0 := Aside0.mk (OwnR.new ho0 HB.out); clear ho0; have n_ := Aside0.mk (below_step HB.out hb); have z_ := Aside0.mk hb.size; clear HB; have HB := n_; clear n_; have HZ1 := z_; clear z_; clear hb; obtain ⟨Ay0, cy0, e_, l_y0⟩ := OY0.out.reads; subst e_; have Ly0 := Aside0.mk l_y0; clear l_y0) | (go_at_call 43; (with_reducible refine (laws_toGift.calls g1_0 g1_1 g1_2 g1_0 g1_1 g1_2 _ HT1.out).mono ?_); rintro e w2 ⟨rfl, hb⟩; have n_ := Aside0.mk (OY0.out.step hb); clear OY0; have OY0 := n_; clear n_; have n_ := Aside0.mk (below_step HB.out hb); have z_ := Aside0.mk hb.size; clear HB; have HB := n_; clear n_; have HZ2 := z_; clear z_; clear hb) | (go_at_call 42; (with_reducible refine (laws_toIntS.calls kt2 _ _ l2 l2 _ (Kd.C_below HR2.out HB.out) HC2.out HT2.out).mono ?_); rintro e w3 ⟨y2, rfl, ho0, hb⟩; have n_ := Aside0.mk (OY0.out.step hb); clear OY0; have OY0 := n_; clear n_; have OY2 := Aside0.mk (OwnR.new ho0 HB.out); clear ho0; have n_ := Aside0.mk (below_step HB.out hb); have z_ := Aside0.mk hb.size; clear HB; have HB := n_; clear n_; have HZ3 := z_; clear z_; clear hb; obtain ⟨Ay2, cy2, e_, l_y2⟩ := OY2.out.reads; subst e_; have Ly2 := Aside0.mk l_y2; clear l_y2) | (go_at_call 41; (with_reducible refine (spec_GiftTerms.calls kw _ _ l0 g1_0 g1_1 g1_2 _ _ l2 R b1 _ OY0.out.c Ly0.out OY2.out.c Ly2.out HW.out).mono ?_); rintro e w4 ⟨vw, rfl, ho0, hb⟩; have n_ := Aside0.mk (OY0.out.step hb); clear OY0; have OY0 := n_; clear n_; have n_ := Aside0.mk (OY2.out.step hb); clear OY2; have OY2 := n_; clear n_; have OW := Aside0.mk (OwnR.new ho0 HB.out); clear ho0; have n_ := Aside0.mk (below_step HB.out hb); have z_ := Aside0.mk hb.size; clear HB; have HB := n_; clear n_; have HZ4 := z_; clear z_; clear hb; obtain ⟨Avw, cvw, e_, l_vw⟩ := OW.out.reads; subst e_; have Lvw := Aside0.mk l_vw; clear l_vw))
  go_wp2_with fail
  refine (laws_toIntS.calls kt0 _ _ l0 l0 _ (Kd.C_below HR0.out HB.out) HC0.out HT0.out).mono ?_
  rintro e w5 ⟨x0, rfl, ho0, hb⟩
  have n_ := Aside0.mk (OY0.out.step hb); clear OY0; have OY0 := n_; clear n_
  have n_ := Aside0.mk (OY2.out.step hb); clear OY2; have OY2 := n_; clear n_
  have n_ := Aside0.mk (OW.out.step hb); clear OW; have OW := n_; clear n_
  have OX0 := Aside0.mk (OwnR.new ho0 HB.out); clear ho0
  have n_ := Aside0.mk (below_step HB.out hb); have z_ := Aside0.mk hb.size; clear HB; have HB := n_; clear n_; have HZ5 := z_; clear z_
  clear hb
  obtain ⟨Ax0, cx0, e_, l_x0⟩ := OX0.out.reads; subst e_; have Lx0 := Aside0.mk l_x0; clear l_x0
  go_wp2_with fail
  refine (laws_toIntS.calls kt2 _ _ l2 l2 _ (Kd.C_below HR2.out HB.out) HC2.out HT2.out).mono ?_
  rintro e w6 ⟨x2, rfl, ho0, hb⟩
  have n_ := Aside0.mk (OY0.out.step hb); clear OY0; have OY0 := n_; clear n_
  have n_ := Aside0.mk (OY2.out.step hb); clear OY2; have OY2 := n_; clear n_
  have n_ := Aside0.mk (OW.out.step hb); clear OW; have OW := n_; clear n_
  have n_ := Aside0.mk (OX0.out.step hb); clear OX0; have OX0 := n_; clear n_
  have OX2 := Aside0.mk (OwnR.new ho0 HB.out); clear ho0
  have n_ := Aside0.mk (below_step HB.out hb); have z_ := Aside0.mk hb.size; clear HB; have HB := n_; clear n_; have HZ6 := z_; clear z_
  clear hb
  obtain ⟨Ax2, cx2, e_, l_x2⟩ := OX2.out.reads; subst e_; have Lx2 := Aside0.mk l_x2; clear l_x2
  obtain ⟨hcz0, hcz1, hcz2⟩ := KEEP.out _ HB.out
  go_wp2_with fail
  refine (laws_toGift.calls g1_0 g1_1 g1_2 g1_0 g1_1 g1_2 _ HT1.out).mono ?_
  rintro e w7 ⟨rfl, hb⟩
  have n_ := Aside0.mk (OY0.out.step hb); clear OY0; have OY0 := n_; clear n_
  have n_ := Aside0.mk (OY2.out.step hb); clear OY2; have OY2 := n_; clear n_
  have n_ := Aside0.mk (OW.out.step hb); clear OW; have OW := n_; clear n_
  have n_ := Aside0.mk (OX0.out.step hb); clear OX0; have OX0 := n_; clear n_
  have n_ := Aside0.mk (OX2.out.step hb); clear OX2; have OX2 := n_; clear n_
  have n_ := Aside0.mk (below_step HB.out hb); have z_ := Aside0.mk hb.size; clear HB; have HB := n_; clear n_; have HZ7 := z_; clear z_
  clear hb
  clear hcz0 hcz1 hcz2
  go_wp2_with fail
  refine (impl_GiftTerms.calls kg _ _ l0 g1_0 g1_1 g1_2 _ _ l2 R b1 _ OX0.out.c Lx0.out OX2.out.c Lx2.out HG.out).mono ?_
  rintro e w8 ⟨vg, rfl, ho0, hb⟩
  have n_ := Aside0.mk (OY0.out.step hb); clear OY0; have OY0 := n_; clear n_
  have n_ := Aside0.mk (OY2.out.step hb); clear OY2; have OY2 := n_; clear n_
  have n_ := Aside0.mk (OW.out.step hb); clear OW; have OW := n_; clear n_
  have n_ := Aside0.mk (OX0.out.step hb); clear OX0; have OX0 := n_; clear n_
  have n_ := Aside0.mk (OX2.out.step hb); clear OX2; have OX2 := n_; clear n_
  have OG := Aside0.mk (OwnR.new ho0 HB.out); clear ho0
  have n_ := Aside0.mk (below_step HB.out hb); have z_ := Aside0.mk hb.size; clear HB; have HB := n_; clear n_; have HZ8 := z_; clear z_
  clear hb
  obtain ⟨Avg, cvg, e_, l_vg⟩ := OG.out.reads; subst e_; have Lvg := Aside0.mk l_vg; clear l_vg
  go_wp2_with fail
  refine (laws_eqIntS.calls ke _ _ R _ _ R true _ OG.out.c Lvg.out OW.out.c Lvw.out HE.out).mono ?_
  rintro e w9 ⟨rfl, hd⟩
  have hb := hd.below; clear hd
  have n_ := Aside0.mk (OY0.out.step hb); clear OY0; have OY0 := n_; clear n_
  have n_ := Aside0.mk (OY2.out.step hb); clear OY2; have OY2 := n_; clear n_
  have n_ := Aside0.mk (OW.out.step hb); clear OW; have OW := n_; clear n_
  have n_ := Aside0.mk (OX0.out.step hb); clear OX0; have OX0 := n_; clear n_
  have n_ := Aside0.mk (OX2.out.step hb); clear OX2; have OX2 := n_; clear n_
  have n_ := Aside0.mk (OG.out.step hb); clear OG; have OG := n_; clear n_
  have n_ := Aside0.mk (below_step HB.out hb); have z_ := Aside0.mk hb.size; clear HB; have HB := n_; clear n_; have HZ9 := z_; clear z_
  clear hb
  go_wp2_with fail
  refine (laws_toIntS.calls kt0 _ _ l0 l0 _ (Kd.C_below HR0.out HB.out) HC0.out HT0.out).mono ?_
  rintro e w10 ⟨z0, rfl, ho0, hb⟩
  have n_ := Aside0.mk (OY0.out.step hb); clear OY0; have OY0 := n_; clear n_
  have n_ := Aside0.mk (OY2.out.step hb); clear OY2; have OY2 := n_; clear n_
  have n_ := Aside0.mk (OW.out.step hb); clear OW; have OW := n_; clear n_
  have n_ := Aside0.mk (OX0.out.step hb); clear OX0; have OX0 := n_; clear n_
  have n_ := Aside0.mk (OX2.out.step hb); clear OX2; have OX2 := n_; clear n_
  have n_ := Aside0.mk (OG.out.step hb); clear OG; have OG := n_; clear n_
  have OZ0 := Aside0.mk (OwnR.new ho0 HB.out); clear ho0
  have n_ := Aside0.mk (below_step HB.out hb); have z_ := Aside0.mk hb.size; clear HB; have HB := n_; clear n_; have HZ10 := z_; clear z_
  clear hb
  obtain ⟨Az0, cz0, e_, l_z0⟩ := OZ0.out.reads; subst e_; have Lz0 := Aside0.mk l_z0; clear l_z0
  go_wp2_with fail
  refine (laws_eqIntS.calls kx0 _ _ l0 _ _ l0 true _ OX0.out.c Lx0.out OZ0.out.c Lz0.out HX0.out).mono ?_
  rintro e w11 ⟨rfl, hd⟩
  have hb := hd.below; clear hd
  have n_ := Aside0.mk (OY0.out.step hb); clear OY0; have OY0 := n_; clear n_
  have n_ := Aside0.mk (OY2.out.step hb); clear OY2; have OY2 := n_; clear n_
  have n_ := Aside0.mk (OW.out.step hb); clear OW; have OW := n_; clear n_
  have n_ := Aside0.mk (OX0.out.step hb); clear OX0; have OX0 := n_; clear n_
  have n_ := Aside0.mk (OX2.out.step hb); clear OX2; have OX2 := n_; clear n_
  have n_ := Aside0.mk (OG.out.step hb); clear OG; have OG := n_; clear n_
  have n_ := Aside0.mk (OZ0.out.step hb); clear OZ0; have OZ0 := n_; clear n_
  have n_ := Aside0.mk (below_step HB.out hb); have z_ := Aside0.mk hb.size; clear HB; have HB := n_; clear n_; have HZ11 := z_; clear z_
  clear hb
  go_wp2_with fail
  refine (laws_toIntS.calls kt2 _ _ l2 l2 _ (Kd.C_below HR2.out HB.out) HC2.out HT2.out).mono ?_
  rintro e w12 ⟨z2, rfl, ho0, hb⟩
  have n_ := Aside0.mk (OY0.out.step hb); clear OY0; have OY0 := n_; clear n_
  have n_ := Aside0.mk (OY2.out.step hb); clear OY2; have OY2 := n_; clear n_
  have n_ := Aside0.mk (OW.out.step hb); clear OW; have OW := n_; clear n_
  have n_ := Aside0.mk (OX0.out.step hb); clear OX0; have OX0 := n_; clear n_
  have n_ := Aside0.mk (OX2.out.step hb); clear OX2; have OX2 := n_; clear n_
  have n_ := Aside0.mk (OG.out.step hb); clear OG; have OG := n_; clear n_
  have n_ := Aside0.mk (OZ0.out.step hb); clear OZ0; have OZ0 := n_; clear n_
  have OZ2 := Aside0.mk (OwnR.new ho0 HB.out); clear ho0
  have n_ := Aside0.mk (below_step HB.out hb); have z_ := Aside0.mk hb.size; clear HB; have HB := n_; clear n_; have HZ12 := z_; clear z_
  clear hb
  obtain ⟨Az2, cz2, e_, l_z2⟩ := OZ2.out.reads; subst e_; have Lz2 := Aside0.mk l_z2; clear l_z2
  go_wp2_with fail
  refine (laws_eqIntS.calls kx2 _ _ l2 _ _ l2 true _ OX2.out.c Lx2.out OZ2.out.c Lz2.out HX2.out).mono ?_
  rintro e w13 ⟨rfl, hd⟩
  have hb := hd.below; clear hd
  have n_ := Aside0.mk (OY0.out.step hb); clear OY0; have OY0 := n_; clear n_
  have n_ := Aside0.mk (OY2.out.step hb); clear OY2; have OY2 := n_; clear n_
  have n_ := Aside0.mk (OW.out.step hb); clear OW; have OW := n_; clear n_
  have n_ := Aside0.mk (OX0.out.step hb); clear OX0; have OX0 := n_; clear n_
  have n_ := Aside0.mk (OX2.out.step hb); clear OX2; have OX2 := n_; clear n_
  have n_ := Aside0.mk (OG.out.step hb); clear OG; have OG := n_; clear n_
  have n_ := Aside0.mk (OZ0.out.step hb); clear OZ0; have OZ0 := n_; clear n_
  have n_ := Aside0.mk (OZ2.out.step hb); clear OZ2; have OZ2 := n_; clear n_
  have n_ := Aside0.mk (below_step HB.out hb); have z_ := Aside0.mk hb.size; clear HB; have HB := n_; clear n_; have HZ13 := z_; clear z_
  clear hb
  go_wp2_with fail
  refine (laws_markIntS.calls _ _ _ l0 (1) _ _ wb _ HB.out OX0.out.s Mx0.out).mono ?_
  rintro e w14 ⟨rfl, hs, hb, hk⟩
  have n_ := Aside0.mk (OY0.out.kept hk (fun k h1 h2 h3 => by have := HZ1.out; have := HZ2.out; have := HZ3.out; have := HZ4.out; have := HZ5.out; have := HZ6.out; have := HZ7.out; have := HZ8.out; have := HZ9.out; have := HZ10.out; have := HZ11.out; have := HZ12.out; have := HZ13.out; omega)); clear OY0; have OY0 := n_; clear n_
  have n_ := Aside0.mk (OY2.out.kept hk (fun k h1 h2 h3 => by have := HZ1.out; have := HZ2.out; have := HZ3.out; have := HZ4.out; have := HZ5.out; have := HZ6.out; have := HZ7.out; have := HZ8.out; have := HZ9.out; have := HZ10.out; have := HZ11.out; have := HZ12.out; have := HZ13.out; omega)); clear OY2; have OY2 := n_; clear n_
  have n_ := Aside0.mk (OW.out.kept hk (fun k h1 h2 h3 => by have := HZ1.out; have := HZ2.out; have := HZ3.out; have := HZ4.out; have := HZ5.out; have := HZ6.out; have := HZ7.out; have := HZ8.out; have := HZ9.out; have := HZ10.out; have := HZ11.out; have := HZ12.out; have := HZ13.out; omega)); clear OW; have OW := n_; clear n_
  have n_ := Aside0.mk (OX2.out.kept hk (fun k h1 h2 h3 => by have := HZ1.out; have := HZ2.out; have := HZ3.out; have := HZ4.out; have := HZ5.out; have := HZ6.out; have := HZ7.out; have := HZ8.out; have := HZ9.out; have := HZ10.out; have := HZ11.out; have := HZ12.out; have := HZ13.out; omega)); clear OX2; have OX2 := n_; clear n_
  have n_ := Aside0.mk (OG.out.kept hk (fun k h1 h2 h3 => by have := HZ1.out; have := HZ2.out; have := HZ3.out; have := HZ4.out; have := HZ5.out; have := HZ6.out; have := HZ7.out; have := HZ8.out; have := HZ9.out; have := HZ10.out; have := HZ11.out; have := HZ12.out; have := HZ13.out; omega)); clear OG; have OG := n_; clear n_
  have n_ := Aside0.mk (OZ0.out.kept hk (fun k h1 h2 h3 => by have := HZ1.out; have := HZ2.out; have := HZ3.out; have := HZ4.out; have := HZ5.out; have := HZ6.out; have := HZ7.out; have := HZ8.out; have := HZ9.out; have := HZ10.out; have := HZ11.out; have := HZ12.out; have := HZ13.out; omega)); clear OZ0; have OZ0 := n_; clear n_
  have n_ := Aside0.mk (OZ2.out.kept hk (fun k h1 h2 h3 => by have := HZ1.out; have := HZ2.out; have := HZ3.out; have := HZ4.out; have := HZ5.out; have := HZ6.out; have := HZ7.out; have := HZ8.out; have := HZ9.out; have := HZ10.out; have := HZ11.out; have := HZ12.out; have := HZ13.out; omega)); clear OZ2; have OZ2 := n_; clear n_
  have n_ := Aside0.mk (OX0.out.done rfl hs hk.1); clear OX0; have OX0 := n_; clear n_
  have z_ := Aside0.mk hk.1; clear HB; have HB := Aside0.mk hb; have HZ14 := z_; clear z_ hs hb hk
  go_wp2_with fail
  refine (laws_markIntS.calls _ _ _ l2 (1 + (l0.length : Int)) _ _ wb _ HB.out OX2.out.s Mx2.out).mono ?_
  rintro e w15 ⟨rfl, hs, hb, hk⟩
  have n_ := Aside0.mk (OY0.out.kept hk (fun k h1 h2 h3 => by have := HZ1.out; have := HZ2.out; have := HZ3.out; have := HZ4.out; have := HZ5.out; have := HZ6.out; have := HZ7.out; have := HZ8.out; have := HZ9.out; have := HZ10.out; have := HZ11.out; have := HZ12.out; have := HZ13.out; have := HZ14.out; omega)); clear OY0; have OY0 := n_; clear n_
  have n_ := Aside0.mk (OY2.out.kept hk (fun k h1 h2 h3 => by have := HZ1.out; have := HZ2.out; have := HZ3.out; have := HZ4.out; have := HZ5.out; have := HZ6.out; have := HZ7.out; have := HZ8.out; have := HZ9.out; have := HZ10.out; have := HZ11.out; have := HZ12.out; have := HZ13.out; have := HZ14.out; omega)); clear OY2; have OY2 := n_; clear n_
  have n_ := Aside0.mk (OW.out.kept hk (fun k h1 h2 h3 => by have := HZ1.out; have := HZ2.out; have := HZ3.out; have := HZ4.out; have := HZ5.out; have := HZ6.out; have := HZ7.out; have := HZ8.out; have := HZ9.out; have := HZ10.out; have := HZ11.out; have := HZ12.out; have := HZ13.out; have := HZ14.out; omega)); clear OW; have OW := n_; clear n_
  have n_ := Aside0.mk (OX0.out.kept hk (fun k h1 h2 h3 => by have := HZ1.out; have := HZ2.out; have := HZ3.out; have := HZ4.out; have := HZ5.out; have := HZ6.out; have := HZ7.out; have := HZ8.out; have := HZ9.out; have := HZ10.out; have := HZ11.out; have := HZ12.out; have := HZ13.out; have := HZ14.out; omega)); clear OX0; have OX0 := n_; clear n_
  have n_ := Aside0.mk (OG.out.kept hk (fun k h1 h2 h3 => by have := HZ1.out; have := HZ2.out; have := HZ3.out; have := HZ4.out; have := HZ5.out; have := HZ6.out; have := HZ7.out; have := HZ8.out; have := HZ9.out; have := HZ10.out; have := HZ11.out; have := HZ12.out; have := HZ13.out; have := HZ14.out; omega)); clear OG; have OG := n_; clear n_
  have n_ := Aside0.mk (OZ0.out.kept hk (fun k h1 h2 h3 => by have := HZ1.out; have := HZ2.out; have := HZ3.out; have := HZ4.out; have := HZ5.out; have := HZ6.out; have := HZ7.out; have := HZ8.out; have := HZ9.out; have := HZ10.out; have := HZ11.out; have := HZ12.out; have := HZ13.out; have := HZ14.out; omega)); clear OZ0; have OZ0 := n_; clear n_
  have n_ := Aside0.mk (OZ2.out.kept hk (fun k h1 h2 h3 => by have := HZ1.out; have := HZ2.out; have := HZ3.out; have := HZ4.out; have := HZ5.out; have := HZ6.out; have := HZ7.out; have := HZ8.out; have := HZ9.out; have := HZ10.out; have := HZ11.out; have := HZ12.out; have := HZ13.out; have := HZ14.out; omega)); clear OZ2; have OZ2 := n_; clear n_
  have n_ := Aside0.mk (OX2.out.done rfl hs hk.1); clear OX2; have OX2 := n_; clear n_
  have z_ := Aside0.mk hk.1; clear HB; have HB := Aside0.mk hb; have HZ15 := z_; clear z_ hs hb hk
  go_wp2_with fail
  refine (laws_eqIntS.calls ke _ _ R _ _ R true _ OG.out.c Lvg.out OW.out.c Lvw.out HE.out).mono ?_
  rintro e w16 ⟨rfl, hd⟩
  have hb := hd.below; clear hd
  have n_ := Aside0.mk (OY0.out.step hb); clear OY0; have OY0 := n_; clear n_
  have n_ := Aside0.mk (OY2.out.step hb); clear OY2; have OY2 := n_; clear n_
  have n_ := Aside0.mk (OW.out.step hb); clear OW; have OW := n_; clear n_
  have n_ := Aside0.mk (OX0.out.step hb); clear OX0; have OX0 := n_; clear n_
  have n_ := Aside0.mk (OX2.out.step hb); clear OX2; have OX2 := n_; clear n_
  have n_ := Aside0.mk (OG.out.step hb); clear OG; have OG := n_; clear n_
  have n_ := Aside0.mk (OZ0.out.step hb); clear OZ0; have OZ0 := n_; clear n_
  have n_ := Aside0.mk (OZ2.out.step hb); clear OZ2; have OZ2 := n_; clear n_
  have n_ := Aside0.mk (below_step HB.out hb); have z_ := Aside0.mk hb.size; clear HB; have HB := n_; clear n_; have HZ16 := z_; clear z_
  clear hb
  go_wp2_with fail
  refine (laws_markIntS.calls _ _ _ R (1) _ _ wb _ HB.out OG.out.s Mg.out).mono ?_
  rintro e w17 ⟨rfl, hs, hb, hk⟩
  have n_ := Aside0.mk (OY0.out.kept hk (fun k h1 h2 h3 => by have := HZ1.out; have := HZ2.out; have := HZ3.out; have := HZ4.out; have := HZ5.out; have := HZ6.out; have := HZ7.out; have := HZ8.out; have := HZ9.out; have := HZ10.out; have := HZ11.out; have := HZ12.out; have := HZ13.out; have := HZ14.out; have := HZ15.out; have := HZ16.out; omega)); clear OY0; have OY0 := n_; clear n_
  have n_ := Aside0.mk (OY2.out.kept hk (fun k h1 h2 h3 => by have := HZ1.out; have := HZ2.out; have := HZ3.out; have := HZ4.out; have := HZ5.out; have := HZ6.out; have := HZ7.out; have := HZ8.out; have := HZ9.out; have := HZ10.out; have := HZ11.out; have := HZ12.out; have := HZ13.out; have := HZ14.out; have := HZ15.out; have := HZ16.out; omega)); clear OY2; have OY2 := n_; clear n_
  have n_ := Aside0.mk (OW.out.kept hk (fun k h1 h2 h3 => by have := HZ1.out; have := HZ2.out; have := HZ3.out; have := HZ4.out; have := HZ5.out; have := HZ6.out; have := HZ7.out; have := HZ8.out; have := HZ9.out; have := HZ10.out; have := HZ11.out; have := HZ12.out; have := HZ13.out; have := HZ14.out; have := HZ15.out; have := HZ16.out; omega)); clear OW; have OW := n_; clear n_
  have n_ := Aside0.mk (OX0.out.kept hk (fun k h1 h2 h3 => by have := HZ1.out; have := HZ2.out; have := HZ3.out; have := HZ4.out; have := HZ5.out; have := HZ6.out; have := HZ7.out; have := HZ8.out; have := HZ9.out; have := HZ10.out; have := HZ11.out; have := HZ12.out; have := HZ13.out; have := HZ14.out; have := HZ15.out; have := HZ16.out; omega)); clear OX0; have OX0 := n_; clear n_
  have n_ := Aside0.mk (OX2.out.kept hk (fun k h1 h2 h3 => by have := HZ1.out; have := HZ2.out; have := HZ3.out; have := HZ4.out; have := HZ5.out; have := HZ6.out; have := HZ7.out; have := HZ8.out; have := HZ9.out; have := HZ10.out; have := HZ11.out; have := HZ12.out; have := HZ13.out; have := HZ14.out; have := HZ15.out; have := HZ16.out; omega)); clear OX2; have OX2 := n_; clear n_
  have n_ := Aside0.mk (OZ0.out.kept hk (fun k h1 h2 h3 => by have := HZ1.out; have := HZ2.out; have := HZ3.out; have := HZ4.out; have := HZ5.out; have := HZ6.out; have := HZ7.out; have := HZ8.out; have := HZ9.out; have := HZ10.out; have := HZ11.out; have := HZ12.out; have := HZ13.out; have := HZ14.out; have := HZ15.out; have := HZ16.out; omega)); clear OZ0; have OZ0 := n_; clear n_
  have n_ := Aside0.mk (OZ2.out.kept hk (fun k h1 h2 h3 => by have := HZ1.out; have := HZ2.out; have := HZ3.out; have := HZ4.out; have := HZ5.out; have := HZ6.out; have := HZ7.out; have := HZ8.out; have := HZ9.out; have := HZ10.out; have := HZ11.out; have := HZ12.out; have := HZ13.out; have := HZ14.out; have := HZ15.out; have := HZ16.out; omega)); clear OZ2; have OZ2 := n_; clear n_
  have n_ := Aside0.mk (OG.out.done rfl hs hk.1); clear OG; have OG := n_; clear n_
  have z_ := Aside0.mk hk.1; clear HB; have HB := Aside0.mk hb; have HZ17 := z_; clear z_ hs hb hk
  go_wp2_with fail
  refine (heldS_at kh _ _ R _ _ HH.out Lvg.out OG.out.c).mono ?_
  rintro e w18 ⟨rfl, hd⟩
  have hb := hd.below; clear hd
  have n_ := Aside0.mk (OY0.out.step hb); clear OY0; have OY0 := n_; clear n_
  have n_ := Aside0.mk (OY2.out.step hb); clear OY2; have OY2 := n_; clear n_
  have n_ := Aside0.mk (OW.out.step hb); clear OW; have OW := n_; clear n_
  have n_ := Aside0.mk (OX0.out.step hb); clear OX0; have OX0 := n_; clear n_
  have n_ := Aside0.mk (OX2.out.step hb); clear OX2; have OX2 := n_; clear n_
  have n_ := Aside0.mk (OG.out.step hb); clear OG; have OG := n_; clear n_
  have n_ := Aside0.mk (OZ0.out.step hb); clear OZ0; have OZ0 := n_; clear n_
  have n_ := Aside0.mk (OZ2.out.step hb); clear OZ2; have OZ2 := n_; clear n_
  have n_ := Aside0.mk (below_step HB.out hb); have z_ := Aside0.mk hb.size; clear HB; have HB := n_; clear n_; have HZ18 := z_; clear z_
  clear hb
  go_wp2_with fail
  have n_ := Aside0.mk (OY0.out.step (below_drew (Below.refl _ _))); clear OY0; have OY0 := n_; clear n_
  have n_ := Aside0.mk (OY2.out.step (below_drew (Below.refl _ _))); clear OY2; have OY2 := n_; clear n_
  have n_ := Aside0.mk (OW.out.step (below_drew (Below.refl _ _))); clear OW; have OW := n_; clear n_
  have n_ := Aside0.mk (OX0.out.step (below_drew (Below.refl _ _))); clear OX0; have OX0 := n_; clear n_
  have n_ := Aside0.mk (OX2.out.step (below_drew (Below.refl _ _))); clear OX2; have OX2 := n_; clear n_
  have n_ := Aside0.mk (OG.out.step (below_drew (Below.refl _ _))); clear OG; have OG := n_; clear n_
  have n_ := Aside0.mk (OZ0.out.step (below_drew (Below.refl _ _))); clear OZ0; have OZ0 := n_; clear n_
  have n_ := Aside0.mk (OZ2.out.step (below_drew (Below.refl _ _))); clear OZ2; have OZ2 := n_; clear n_
  have n_ := Aside0.mk (below_drew HB.out); clear HB; have HB := n_; clear n_
  go_region_held3 (fun w' => w'.cell? ⟨gb, 0, none⟩ = some (.int .i64 g1_0) ∧ w'.cell? ⟨gb, 1, none⟩ = some (.int .i64 g1_1) ∧ w'.cell? ⟨gb, 2, none⟩ = some (.int .i64 g1_2)) ((refine KEEP.out _ ?_; first | exact HB.out | exact below_drew HB.out)) (first | (go_at_call 42; (with_reducible refine (laws_toIntS.calls kt0 _ _ l0 l0 _ (Kd.C_below HR0.out HB.out) HC0.out HT0.out).mono ?_); rintro e w19 ⟨u0, rfl, ho0, hb⟩; have n_ := Aside0.mk (OY0.out.step hb); clear OY0; have OY0 := n_; clear n_; have n_ := Aside0.mk (OY2.out.step hb); clear OY2; have OY2 := n_; clear n_; have n_ := Aside0.mk (OW.out.step hb); clear OW; have OW := n_; clear n_; have n_ := Aside0.mk (OX0.out.step hb); clear OX0; have OX0 := n_; clear n_; have n_ := Aside0.mk (OX2.out.step hb); clear OX2; have OX2 := n_; clear n_; have n_ := Aside0.mk (OG.out.step hb); clear OG; have OG := n_; clear n_; have n_ := Aside0.mk (OZ0.out.step hb); clear OZ0; have OZ0 := n_; clear n_; have n_ := Aside0.mk (OZ2.out.step hb); clear OZ2; have OZ2 := n_; clear n_; have OU0 := Aside0.mk (OwnR.new ho0 HB.out); clear ho0; have n_ := Aside0.mk (below_step HB.out hb); have z_ := Aside0.mk hb.size; clear HB; have HB := n_; clear n_; have HZ19 := z_; clear z_; clear hb; obtain ⟨Au0, cu0, e_, l_u0⟩ := OU0.out.reads; subst e_; have Lu0 := Aside0.mk l_u0; clear l_u0) | (go_at_call 43; (with_reducible refine (laws_toGift.calls g1_0 g1_1 g1_2 g1_0 g1_1 g1_2 _ HT1.out).mono ?_); rintro e w20 ⟨rfl, hb⟩; have n_ := Aside0.mk (OY0.out.step hb); clear OY0; have OY0 := n_; clear n_; have n_ := Aside0.mk (OY2.out.step hb); clear OY2; have OY2 := n_; clear n_; have n_ := Aside0.mk (OW.out.step hb); clear OW; have OW := n_; clear n_; have n_ := Aside0.mk (OX0.out.step hb); clear OX0; have OX0 := n_; clear n_; have n_ := Aside0.mk (OX2.out.step hb); clear OX2; have OX2 := n_; clear n_; have n_ := Aside0.mk (OG.out.step hb); clear OG; have OG := n_; clear n_; have n_ := Aside0.mk (OZ0.out.step hb); clear OZ0; have OZ0 := n_; clear n_; have n_ := Aside0.mk (OZ2.out.step hb); clear OZ2; have OZ2 := n_; clear n_; have n_ := Aside0.mk (OU0.out.step hb); clear OU0; have OU0 := n_; clear n_; have n_ := Aside0.mk (below_step HB.out hb); have z_ := Aside0.mk hb.size; clear HB; have HB := n_; clear n_; have HZ20 := z_; clear z_; clear hb) | (go_at_call 42; (with_reducible refine (laws_toIntS.calls kt2 _ _ l2 l2 _ (Kd.C_below HR2.out HB.out) HC2.out HT2.out).mono ?_); rintro e w21 ⟨u2, rfl, ho0, hb⟩; have n_ := Aside0.mk (OY0.out.step hb); clear OY0; have OY0 := n_; clear n_; have n_ := Aside0.mk (OY2.out.step hb); clear OY2; have OY2 := n_; clear n_; have n_ := Aside0.mk (OW.out.step hb); clear OW; have OW := n_; clear n_; have n_ := Aside0.mk (OX0.out.step hb); clear OX0; have OX0 := n_; clear n_; have n_ := Aside0.mk (OX2.out.step hb); clear OX2; have OX2 := n_; clear n_; have n_ := Aside0.mk (OG.out.step hb); clear OG; have OG := n_; clear n_; have n_ := Aside0.mk (OZ0.out.step hb); clear OZ0; have OZ0 := n_; clear n_; have n_ := Aside0.mk (OZ2.out.step hb); clear OZ2; have OZ2 := n_; clear n_; have n_ := Aside0.mk (OU0.out.step hb); clear OU0; have OU0 := n_; clear n_; have OU2 := Aside0.mk (OwnR.new ho0 HB.out); clear ho0; have n_ := Aside0.mk (below_step HB.out hb); have z_ := Aside0.mk hb.size; clear HB; have HB := n_; clear n_; have HZ21 := z_; clear z_; clear hb; obtain ⟨Au2, cu2, e_, l_u2⟩ := OU2.out.reads; subst e_; have Lu2 := Aside0.mk l_u2; clear l_u2) | (go_at_call 44; (with_reducible refine (impl_GiftTerms.calls kg _ _ l0 g1_0 g1_1 g1_2 _ _ l2 R b1 _ OU0.out.c Lu0.out OU2.out.c Lu2.out HG.out).mono ?_); rintro e w22 ⟨vh, rfl, ho0, hb⟩; have n_ := Aside0.mk (OY0.out.step hb); clear OY0; have OY0 := n_; clear n_; have n_ := Aside0.mk (OY2.out.step hb); clear OY2; have OY2 := n_; clear n_; have n_ := Aside0.mk (OW.out.step hb); clear OW; have OW := n_; clear n_; have n_ := Aside0.mk (OX0.out.step hb); clear OX0; have OX0 := n_; clear n_; have n_ := Aside0.mk (OX2.out.step hb); clear OX2; have OX2 := n_; clear n_; have n_ := Aside0.mk (OG.out.step hb); clear OG; have OG := n_; clear n_; have n_ := Aside0.mk (OZ0.out.step hb); clear OZ0; have OZ0 := n_; clear n_; have n_ := Aside0.mk (OZ2.out.step hb); clear OZ2; have OZ2 := n_; clear n_; have n_ := Aside0.mk (OU0.out.step hb); clear OU0; have OU0 := n_; clear n_; have n_ := Aside0.mk (OU2.out.step hb); clear OU2; have OU2 := n_; clear n_; have OH := Aside0.mk (OwnR.new ho0 HB.out); clear ho0; have n_ := Aside0.mk (below_step HB.out hb); have z_ := Aside0.mk hb.size; clear HB; have HB := n_; clear n_; have HZ22 := z_; clear z_; clear hb; obtain ⟨Avh, cvh, e_, l_vh⟩ := OH.out.reads; subst e_; have Lvh := Aside0.mk l_vh; clear l_vh))
  go_wp2_with fail
  refine (laws_eqIntS.calls ke _ _ R _ _ R true _ OH.out.c Lvh.out OW.out.c Lvw.out HE.out).mono ?_
  rintro e w23 ⟨rfl, hd⟩
  have hb := hd.below; clear hd
  have n_ := Aside0.mk (OY0.out.step hb); clear OY0; have OY0 := n_; clear n_
  have n_ := Aside0.mk (OY2.out.step hb); clear OY2; have OY2 := n_; clear n_
  have n_ := Aside0.mk (OW.out.step hb); clear OW; have OW := n_; clear n_
  have n_ := Aside0.mk (OX0.out.step hb); clear OX0; have OX0 := n_; clear n_
  have n_ := Aside0.mk (OX2.out.step hb); clear OX2; have OX2 := n_; clear n_
  have n_ := Aside0.mk (OG.out.step hb); clear OG; have OG := n_; clear n_
  have n_ := Aside0.mk (OZ0.out.step hb); clear OZ0; have OZ0 := n_; clear n_
  have n_ := Aside0.mk (OZ2.out.step hb); clear OZ2; have OZ2 := n_; clear n_
  have n_ := Aside0.mk (OU0.out.step hb); clear OU0; have OU0 := n_; clear n_
  have n_ := Aside0.mk (OU2.out.step hb); clear OU2; have OU2 := n_; clear n_
  have n_ := Aside0.mk (OH.out.step hb); clear OH; have OH := n_; clear n_
  have n_ := Aside0.mk (below_step HB.out hb); have z_ := Aside0.mk hb.size; clear HB; have HB := n_; clear n_; have HZ23 := z_; clear z_
  clear hb
  go_wp2_with fail
  refine (heldS_at kh _ _ R _ _ HH.out Lvg.out OG.out.c).mono ?_
  rintro e w24 ⟨rfl, hd⟩
  have hb := hd.below; clear hd
  have n_ := Aside0.mk (OY0.out.step hb); clear OY0; have OY0 := n_; clear n_
  have n_ := Aside0.mk (OY2.out.step hb); clear OY2; have OY2 := n_; clear n_
  have n_ := Aside0.mk (OW.out.step hb); clear OW; have OW := n_; clear n_
  have n_ := Aside0.mk (OX0.out.step hb); clear OX0; have OX0 := n_; clear n_
  have n_ := Aside0.mk (OX2.out.step hb); clear OX2; have OX2 := n_; clear n_
  have n_ := Aside0.mk (OG.out.step hb); clear OG; have OG := n_; clear n_
  have n_ := Aside0.mk (OZ0.out.step hb); clear OZ0; have OZ0 := n_; clear n_
  have n_ := Aside0.mk (OZ2.out.step hb); clear OZ2; have OZ2 := n_; clear n_
  have n_ := Aside0.mk (OU0.out.step hb); clear OU0; have OU0 := n_; clear n_
  have n_ := Aside0.mk (OU2.out.step hb); clear OU2; have OU2 := n_; clear n_
  have n_ := Aside0.mk (OH.out.step hb); clear OH; have OH := n_; clear n_
  have n_ := Aside0.mk (below_step HB.out hb); have z_ := Aside0.mk hb.size; clear HB; have HB := n_; clear n_; have HZ24 := z_; clear z_
  clear hb
  go_wp2
  go_ret
  exact ⟨rfl, below_step KB.out HB.out⟩
end Go.Proofs.Ytllnieknogficaa.K
namespace Go.Proofs.Ytllnieknogficaa.K
open Go.RowKit Go.Proofs.YtllnieknogficaaW.PrintWords Go.Proofs.YtllnieknogficaaW.PrintLast Go.Proofs.YtllnieknogficaaW.PrintMore
attribute [local go_sem] max2_int min2_int max_two min_two max_three min_three max_four min_four   -- for this text's walks alone
set_option linter.unusedVariables false
set_option linter.unusedSimpArgs false
open Go.ChangeShapes Go.WideShapes Go.ChangeAt Go.Deep
theorem read_int_rows {H : Type} {enc : TypeId × Value → H} {P : Program} {W : World} {t e q : TypeId} {a : Option Addr} {len cap : Nat} {d : DataW H} {ps : List MemPlace} (ht : P.underlying t = some (.slice e)) (he : P.underlying e = some (.slice q)) (hq : P.underlying q = some (.int .i64))
    (ce : P.cellsOf e = 1) (cq : P.cellsOf q = 1) (h : DataW.Trod enc P W 0 (fun _ => true) true t (.slice a len cap) d ps) :
    ∃ l : List (List Int), len = l.length ∧ Kd.C (Kd.slice 3 (Kd.int .i64)) W a l.length l ∧ l.length ≤ cap ∧ ∀ r ∈ l, r.length ≤ 9223372036854775807 := by
  obtain ⟨fuel, hf⟩ := h
  rcases open_int_rows ht he hq ce cq hf with ⟨hcs, _⟩ | ⟨x, l, c, A, L, C, Z, hcs, _, hl, hm, _, hrows⟩
  · simp [Value.cells] at hcs
    obtain ⟨rfl, rfl, rfl⟩ := hcs
    exact ⟨[], rfl, Kd.C_nil _ _, Nat.le_refl _, fun r hr => by simp at hr⟩
  · simp [Value.cells] at hcs
    obtain ⟨rfl, rfl, rfl⟩ := hcs
    have hmx : maxLen = 9223372036854775807 := rfl
    have hlen : ((List.range len).map fun r => (Z r).take (L r)).length = len := by simp
    have hzl : ∀ r, r < cap → ((Z r).take (L r)).length = L r := fun r hr => by
      obtain ⟨_, h1, _, h2, _⟩ := hrows r hr
      rw [List.length_take]
      omega
    refine ⟨(List.range len).map fun r => (Z r).take (L r), hlen.symm, ⟨rfl, by rw [hlen]; omega, fun hp => ⟨x, rfl, fun j p hj => ?_⟩⟩, by rw [hlen]; exact hl, fun r hr => ?_⟩
    · obtain ⟨hjl, hp2⟩ := List.getElem?_eq_some_iff.1 hj
      rw [hlen] at hjl
      obtain ⟨hcell, h1, h2, h3, _, h5, h6⟩ := hrows j (by omega)
      have hp3 : p = (Z j).take (L j) := by rw [← hp2]; simp
      subst hp3
      have hzj := hzl j (by omega)
      refine ⟨[.slice (A j) (L j) (C j)], rfl, ⟨A j, C j, by rw [hzj], by rw [hzj]; exact h1, ⟨rfl, by rw [hzj]; omega, fun hp => ?_⟩⟩, fun i u hu => ?_⟩
      · cases hA : A j with
        | none => rw [hzj] at hp; have := h5 hA; omega
        | some a' =>
          refine ⟨a', rfl, fun i p hi => ⟨[.int .i64 p], rfl, rfl, fun i2 u hu => ?_⟩⟩
          obtain ⟨hil, hpi⟩ := List.getElem?_eq_some_iff.1 hi
          rw [hzj] at hil
          have hcc := (h6 a' hA).2 i (by omega)
          have hi2 : i2 = 0 := by
            have := (List.getElem?_eq_some_iff.1 hu).1
            simpa using this
          subst hi2
          simp at hu
          subst hu
          show W.cell? (a'.add (i * 1 + 0)) = _
          rw [Nat.mul_one, Nat.add_zero, hcc, ← hpi]
          rw [List.getD_eq_getElem?_getD, List.getElem?_eq_getElem (by omega)]
          simp
      · have hi2 : i = 0 := by
          have := (List.getElem?_eq_some_iff.1 hu).1
          simpa using this
        subst hi2
        simp at hu
        subst hu
        show W.cell? (x.add (j * 1 + 0)) = _
        rw [Nat.mul_one, Nat.add_zero, hcell]
    · simp only [List.mem_map, List.mem_range] at hr
      obtain ⟨j, hj, rfl⟩ := hr
      obtain ⟨_, h1, h2, _⟩ := hrows j (by omega)
      rw [hzl j (by omega)]
      omega
end Go.Proofs.Ytllnieknogficaa.K
