/-
Part 2 of the proof of the law FnGiftsInSums: what the Go functions that it reaches come to, each proved of the given program; no condition beside those that each theorem names.
-/
import Derived.Deep.AppendLies
import Derived.Lib.SliceRun
import Derived.Laws.EntriesVeiled
import Derived.Test.YtllnieknogficaaMFnGiftsInSums1
namespace Go.Proofs.Ytllnieknogficaa.K
open Go.RowKit Go.Proofs.YtllnieknogficaaW.PrintWords Go.Proofs.YtllnieknogficaaW.PrintLast Go.Proofs.YtllnieknogficaaW.PrintMore
attribute [local go_sem] max2_int min2_int max_two min_two max_three min_three max_four min_four   -- for this text's walks alone
set_option linter.unusedVariables false
set_option linter.unusedSimpArgs false

def impl_canGive.f (l0 : List Int) (a1_0 : Int) (a1_1 : Int) (a1_2 : Int) : Option (Bool) := (impl_isGift.f l0 a1_0 a1_1 a1_2).bind fun t333 => (if t333 = true then (if 0 ≤ a1_0 then (if a1_0 < (l0.length : Int) then (if a1_2 ≤ (rd l0 a1_0) then (if 0 ≤ a1_1 then (if a1_1 < (l0.length : Int) then (some (decide (a1_2 ≤ (wrap64 (60 - (rd l0 a1_1)))))) else (none)) else (none)) else (some false)) else (none)) else (none)) else (some false))
def impl_canGive.T1 : Bool × List (List Nat × List Nat) := (true, [([], []), ([], []), ([0, 1], [0, 1]), ([2, 2], [2]), ([3], [3]), ([4, 3], [3, 4]), ([3], [3]), ([3], [3]), ([7, 3], [3, 7]), ([6, 8, 3], [3, 6, 8]), ([9, 3], [3, 9]), ([5, 10, 3], [3, 5, 10]), ([3, 11], [3, 11]), ([12, 3], [12]), ([13], [13]), ([14, 13], [13, 14]), ([13], [13]), ([13], [13]), ([17, 13], [13, 17]), ([16, 18, 13], [13, 16, 18]), ([19, 13], [13, 19]), ([20, 13], [13, 20]), ([15, 21, 13], [13, 15, 21]), ([13, 22], [13, 22]), ([23, 13, 0, 1, 2, 3, 4, 5, 6, 7, 8, 9, 10, 11, 12, 13, 14, 15, 16, 17, 18, 19, 20, 21, 22, 23], [23])])
def impl_canGive.B1 : List Nat := [0, 0, 3, 7, 15, 31, 15, 15, 143, 463, 975, 2047, 4095, 8191, 16383, 32767, 16383, 16383, 147455, 475135, 999423, 2047999, 4194303, 8388607, 16777215]
theorem impl_canGive.tab1 : rtab .any (opsOf Try.f149 1) = impl_canGive.T1 := by kernel_rfl
theorem impl_canGive.bits1 : waitsOk impl_canGive.T1.2 impl_canGive.B1 = true := by kernel_rfl
set_option maxHeartbeats 8000000 in
set_option maxRecDepth 100000 in
theorem impl_canGive.calls (A0 : Option Addr) (c0 : Nat) (l0 : List Int) (a1_0 : Int) (a1_1 : Int) (a1_2 : Int) (r : Bool) (w : World) (hr0 : Kd.C (Kd.int .i64) w A0 l0.length l0) (hc0 : l0.length ≤ c0) (h : impl_canGive.f l0 a1_0 a1_1 a1_2 = some r) :
  Calls Try.prog 149 #[.slice A0 l0.length c0, .agg #[.int .i64 a1_0, .int .i64 a1_1, .int .i64 a1_2]] w fun e w' => e = .returned (.bool r) ∧ Below w.heap.size w w' := by
 have hu52 := Try.underlying52
 have HR0 := Aside0.mk hr0
 have HC0 := Aside0.mk hc0
 clear hr0 hc0
 have HB := Aside0.mk (Below.refl w.heap.size w)
 have H : ((impl_isGift.f l0 a1_0 a1_1 a1_2).bind fun t333 => (if t333 = true then (if 0 ≤ a1_0 then (if a1_0 < (l0.length : Int) then (if a1_2 ≤ (rd l0 a1_0) then (if 0 ≤ a1_1 then (if a1_1 < (l0.length : Int) then (some (decide (a1_2 ≤ (wrap64 (60 - (rd l0 a1_1)))))) else (none)) else (none)) else (some false)) else (none)) else (none)) else (some false))) = some r := h
 clear h
 replace H := Option.bind_eq_some_iff.mp H
 obtain ⟨t333, A30, H⟩ := H
 replace H : (if t333 = true then (if 0 ≤ a1_0 then (if a1_0 < (l0.length : Int) then (if a1_2 ≤ (rd l0 a1_0) then (if 0 ≤ a1_1 then (if a1_1 < (l0.length : Int) then (some (decide (a1_2 ≤ (wrap64 (60 - (rd l0 a1_1)))))) else (none)) else (none)) else (some false)) else (none)) else (none)) else (some false)) = some r := H
 have A3 := Aside0.mk A30
 clear A30
 by_cases c4 : t333 = true
 ·subst c4
  have H1 : (if 0 ≤ a1_0 then (if a1_0 < (l0.length : Int) then (if a1_2 ≤ (rd l0 a1_0) then (if 0 ≤ a1_1 then (if a1_1 < (l0.length : Int) then (some (decide (a1_2 ≤ (wrap64 (60 - (rd l0 a1_1)))))) else (none)) else (none)) else (some false)) else (none)) else (none)) = some r := by rw [if_pos rfl] at H; exact H
  clear H
  have H := H1
  clear H1
  by_cases c5 : 0 ≤ a1_0
  ·rw [if_pos c5] at H
   have c5b0 : decide (0 ≤ a1_0) = true := decide_eq_true c5
   clear c5
   by_cases c6 : a1_0 < (l0.length : Int)
   ·rw [if_pos c6] at H
    have c6b0 : decide (a1_0 < (l0.length : Int)) = true := decide_eq_true c6
    clear c6
    by_cases c7 : a1_2 ≤ (rd l0 a1_0)
    ·rw [if_pos c7] at H
     have c7b0 : decide (a1_2 ≤ (rd l0 a1_0)) = true := decide_eq_true c7
     clear c7
     by_cases c8 : 0 ≤ a1_1
     ·rw [if_pos c8] at H
      have c8b0 : decide (0 ≤ a1_1) = true := decide_eq_true c8
      clear c8
      by_cases c9 : a1_1 < (l0.length : Int)
      ·rw [if_pos c9] at H
       have c9b0 : decide (a1_1 < (l0.length : Int)) = true := decide_eq_true c9
       clear c9
       obtain rfl := Option.some.inj H
       go_enter Try.func149, Try.ntmps149
       try go_wp2_with (first | ((with_reducible refine gate_dst (N := 3) rfl ?_); refine box_event ?hg (N := 3) ?hd (cs := #[.int .i64 a1_0, .int .i64 a1_1, .int .i64 a1_2]) (t := 52) ?hr ?_; (case hd => rfl); (case hg => rfl); (case hr => first | (go_simp; done) | (go_simp; rfl)); intro gb332 hg w10 hbox hb; have n0_ := Aside0.mk (below_step (by repeat (first | (with_reducible first | exact HB.out | apply below_alloc | apply pw_below_drewN | apply below_drew1) | exact HB.out)) hb); have n1_ := Aside0.mk (hbox); have n2_ := Aside0.mk ((by rw [hg]; exact (below_size (by repeat (first | (with_reducible first | exact HB.out | apply below_alloc | apply pw_below_drewN | apply below_drew1) | exact HB.out))) : w.heap.size ≤ gb332)); have n3_ := Aside0.mk ((by rw [hg]; exact (below_size (by repeat (first | (with_reducible first | exact HB.out | apply below_alloc | apply pw_below_drewN | apply below_drew1) | exact HB.out))) : w.heap.size ≤ gb332)); clear HB; have HB := n0_; have BK332 := n1_; have GW332 := n2_; have GE332 := n3_; clear n0_ n1_ n2_ n3_; clear hb hbox hg))
       have n0_ := Aside0.mk (blk_drew BK332.out)
       have n1_ := Aside0.mk (below_drew1 HB.out)
       clear BK332
       clear HB
       have BK332 := n0_
       have HB := n1_
       clear n0_ n1_
       have p334 : 0 ≤ (a1_0 : Int) := of_decide_eq_true (by first | (with_reducible assumption) | assumption)
       have q334 : a1_0 < (l0.length : Int) := of_decide_eq_true (by first | (with_reducible assumption) | assumption)
       obtain ⟨ad334, e334, hx334_0⟩ := Kd.at_int HR0.out a1_0 p334 q334
       have hw334_0 := hx334_0
       cases e334
       replace hx334_0 := (HB.out.cell (World.block_lt_of_cell? w _ hx334_0)).trans hx334_0
       replace p334 := eq_true p334
       replace q334 := eq_true q334
       have p335 : 0 ≤ (a1_1 : Int) := of_decide_eq_true (by first | (with_reducible assumption) | assumption)
       have q335 : a1_1 < (l0.length : Int) := of_decide_eq_true (by first | (with_reducible assumption) | assumption)
       obtain ⟨ad335, e335, hx335_0⟩ := Kd.at_int HR0.out a1_1 p335 q335
       have hw335_0 := hx335_0
       obtain rfl : ad334 = ad335 := (by injection e335)
       replace hx335_0 := (HB.out.cell (World.block_lt_of_cell? w _ hx335_0)).trans hx335_0
       replace p335 := eq_true p335
       replace q335 := eq_true q335
       refine start_ (n := 25) (S := fun w' => w'.cell? ⟨gb332, 0, none⟩ = some (.int .i64 a1_0) ∧ w'.cell? ⟨gb332, 1, none⟩ = some (.int .i64 a1_1) ∧ w'.cell? ⟨gb332, 2, none⟩ = some (.int .i64 a1_2) ∧ w'.cell? (ad334.add (a1_0).toNat) = some (.int .i64 (rd l0 a1_0)) ∧ w'.cell? (ad334.add (a1_1).toNat) = some (.int .i64 (rd l0 a1_1))) (ds := []) #[false, false, false, false, false, false, false, false, false, false, false, false, false, false, false, false, false, false, false, false, false, false, false, false, false] (by kernel_rfl) rfl rfl ⟨(blk_cell BK332.out 0).trans rfl, (blk_cell BK332.out 1).trans rfl, (blk_cell BK332.out 2).trans rfl, ((HB.out.cell (World.block_lt_of_cell? w _ hw334_0)).trans hw334_0), ((HB.out.cell (World.block_lt_of_cell? w _ hw335_0)).trans hw335_0)⟩ (fun hHeld => ?_); refine with_tabW impl_canGive.tab1 impl_canGive.bits1 (fun HT_ HW_ => ?_)
       generalize w10.drew = w11 at BK332 HB hx334_0 hx335_0 hHeld ⊢
       refine pure_ (i := 0) (N := some 5) (v := ?_) (a' := ?_) #[true, false, false, false, false, false, false, false, false, false, false, false, false, false, false, false, false, false, false, false, false, false, false, false, false] rfl rfl (any_of HT_.out (by kernel_rfl)) (fun _ _ _ h => h) (Or.inl ⟨by rfl, ?_⟩) ?_ ?_
       rotate_left
       ·intro w'
        go_simp
        with_reducible rfl
       rotate_left
       ·simp only [Act.put, List.setIfInBounds_toArray, List.set_cons_zero, List.set_cons_succ, i64_w, i32_w]
        rfl
       refine take_ (i := 1) (N := some 6) (v := ?_) (a' := ?_) #[true, true, false, false, false, false, false, false, false, false, false, false, false, false, false, false, false, false, false, false, false, false, false, false, false] rfl rfl (take_ofW HT_.out HW_.out (by kernel_rfl)) (fun _ _ _ h => h) (Or.inl ⟨by rfl, ?_⟩) hHeld ?_ ?_
       rotate_left
       ·rintro w' ⟨s0, s1, s2, s3, s4⟩
        go_simp
        with_reducible rfl
       rotate_left
       ·simp only [Act.put, List.setIfInBounds_toArray, List.set_cons_zero, List.set_cons_succ, i64_w, i32_w]
        rfl
       refine one_ (i := 2) (N := some 7) #[true, true, true, false, false, false, false, false, false, false, false, false, false, false, false, false, false, false, false, false, false, false, false, false, false] rfl rfl (one_of HT_.out (by kernel_rfl)) (by decide) (fun K hK => ?_)
       refine goes_ Try.func212 (by kernel_rfl) rfl #[.slice _ l0.length c0, .agg #[.int .i64 a1_0, .int .i64 a1_1, .int .i64 a1_2]] (by rfl) rfl rfl (by (try simp only [List.map_toArray, List.map_cons, List.map_nil]); first | done | rfl | (simp only [List.length_drop, List.length_take]; rfl)) ?_
       with_reducible refine (impl_isGift.calls _ _ l0 a1_0 a1_1 a1_2 true _ ?side1 ?side2 A3.out).mono ?_
       (case side1 => repeat (first | exact (Kd.C_below HR0.out HB.out) | (with_reducible refine Kd.C_alloc ?_ _) | (with_reducible refine Kd.C_drewN ?_ _) | (with_reducible refine Kd.C_drew ?_)))
       (case side2 => exact HC0.out)
       rintro e w12 ⟨rfl, hb⟩
       refine ⟨_, rfl, ?_⟩
       have n0_ := Aside0.mk (blk_below (g := gb332) (o := .cells #[.int .i64 a1_0, .int .i64 a1_1, .int .i64 a1_2] 52 (0, 0)) (by (with_reducible repeat (first | refine blk_drewN ?_ _ | refine blk_drew ?_ | refine blk_alloc ?_ _)); exact BK332.out) hb)
       have n1_ := Aside0.mk (below_step (by repeat (first | (with_reducible first | exact HB.out | apply below_alloc | apply pw_below_drewN | apply below_drew1 | refine below_set ?_ GE332.out) | exact HB.out)) hb)
       clear BK332
       clear HB
       have BK332 := n0_
       have HB := n1_
       clear n0_ n1_
       (try clear hb)
       (try clear hb2)
       (try clear hk)
       (try clear hi)
       refine hK.out _ _ ⟨(blk_cell BK332.out 0).trans rfl, (blk_cell BK332.out 1).trans rfl, (blk_cell BK332.out 2).trans rfl, ((HB.out.cell (World.block_lt_of_cell? w _ hw334_0)).trans hw334_0), ((HB.out.cell (World.block_lt_of_cell? w _ hw335_0)).trans hw335_0)⟩ (fun hHeld => ?_)
       clear hK K
       refine norm_ (a' := ?_) ?_ ?_
       rotate_left
       ·show Act.put _ (some 7) _ = _
        simp only [Act.put, List.setIfInBounds_toArray, List.set_cons_zero, List.set_cons_succ, i64_w, i32_w]
        rfl
       refine pure_ (i := 3) (N := some 8) (v := ?_) (a' := ?_) #[true, true, true, true, false, false, false, false, false, false, false, false, false, false, false, false, false, false, false, false, false, false, false, false, false] rfl rfl (any_of HT_.out (by kernel_rfl)) (fun _ _ _ h => h) (Or.inl ⟨by rfl, ?_⟩) ?_ ?_
       rotate_left
       ·intro w'
        go_simp
        with_reducible rfl
       rotate_left
       ·simp only [Act.put, List.setIfInBounds_toArray, List.set_cons_zero, List.set_cons_succ, i64_w, i32_w]
        rfl
       refine pure_ (i := 4) (N := some 9) (v := ?_) (a' := ?_) #[true, true, true, true, true, false, false, false, false, false, false, false, false, false, false, false, false, false, false, false, false, false, false, false, false] rfl rfl (any_of HT_.out (by kernel_rfl)) (fun _ _ _ h => h) (Or.inl ⟨by rfl, ?_⟩) ?_ ?_
       rotate_left
       ·intro w'
        go_simp
        with_reducible rfl
       rotate_left
       ·simp only [Act.put, List.setIfInBounds_toArray, List.set_cons_zero, List.set_cons_succ, i64_w, i32_w]
        rfl
       refine pure_ (i := 6) (N := some 11) (v := ?_) (a' := ?_) #[true, true, true, true, true, false, true, false, false, false, false, false, false, false, false, false, false, false, false, false, false, false, false, false, false] rfl rfl (any_of HT_.out (by kernel_rfl)) (fun _ _ _ h => h) (Or.inl ⟨by rfl, ?_⟩) ?_ ?_
       rotate_left
       ·intro w'
        go_simp
        with_reducible rfl
       rotate_left
       ·simp only [Act.put, List.setIfInBounds_toArray, List.set_cons_zero, List.set_cons_succ, i64_w, i32_w]
        rfl
       refine pure_ (i := 7) (N := some 12) (v := ?_) (a' := ?_) #[true, true, true, true, true, false, true, true, false, false, false, false, false, false, false, false, false, false, false, false, false, false, false, false, false] rfl rfl (any_of HT_.out (by kernel_rfl)) (fun _ _ _ h => h) (Or.inl ⟨by rfl, ?_⟩) ?_ ?_
       rotate_left
       ·intro w'
        go_simp
        with_reducible rfl
       rotate_left
       ·simp only [Act.put, List.setIfInBounds_toArray, List.set_cons_zero, List.set_cons_succ, i64_w, i32_w]
        rfl
       refine take_ (i := 5) (N := some 10) (v := ?_) (a' := ?_) #[true, true, true, true, true, true, true, true, false, false, false, false, false, false, false, false, false, false, false, false, false, false, false, false, false] rfl rfl (take_ofW HT_.out HW_.out (by kernel_rfl)) (fun _ _ _ h => h) (Or.inl ⟨by rfl, ?_⟩) hHeld ?_ ?_
       rotate_left
       ·rintro w' ⟨s0, s1, s2, s3, s4⟩
        go_simp
        with_reducible rfl
       rotate_left
       ·simp only [Act.put, List.setIfInBounds_toArray, List.set_cons_zero, List.set_cons_succ, i64_w, i32_w]
        rfl
       refine take_ (i := 8) (N := some 13) (v := ?_) (a' := ?_) #[true, true, true, true, true, true, true, true, true, false, false, false, false, false, false, false, false, false, false, false, false, false, false, false, false] rfl rfl (take_ofW HT_.out HW_.out (by kernel_rfl)) (fun _ _ _ h => h) (Or.inl ⟨by rfl, ?_⟩) hHeld ?_ ?_
       rotate_left
       ·rintro w' ⟨s0, s1, s2, s3, s4⟩
        go_simp
        with_reducible rfl
       rotate_left
       ·simp only [Act.put, List.setIfInBounds_toArray, List.set_cons_zero, List.set_cons_succ, i64_w, i32_w]
        rfl
       refine pure_ (i := 9) (N := some 14) (v := ?_) (a' := ?_) #[true, true, true, true, true, true, true, true, true, true, false, false, false, false, false, false, false, false, false, false, false, false, false, false, false] rfl rfl (any_of HT_.out (by kernel_rfl)) (fun _ _ _ h => h) (Or.inl ⟨by rfl, ?_⟩) ?_ ?_
       rotate_left
       ·intro w'
        go_simp
        with_reducible rfl
       rotate_left
       ·simp only [Act.put, List.setIfInBounds_toArray, List.set_cons_zero, List.set_cons_succ, i64_w, i32_w]
        rfl
       refine take_ (i := 10) (N := some 15) (v := ?_) (a' := ?_) #[true, true, true, true, true, true, true, true, true, true, true, false, false, false, false, false, false, false, false, false, false, false, false, false, false] rfl rfl (take_ofW HT_.out HW_.out (by kernel_rfl)) (fun _ _ _ h => h) (Or.inl ⟨by rfl, ?_⟩) hHeld ?_ ?_
       rotate_left
       ·rintro w' ⟨s0, s1, s2, s3, s4⟩
        go_simp
        with_reducible rfl
       rotate_left
       ·simp only [Act.put, List.setIfInBounds_toArray, List.set_cons_zero, List.set_cons_succ, i64_w, i32_w]
        rfl
       refine pure_ (i := 11) (N := some 16) (v := ?_) (a' := ?_) #[true, true, true, true, true, true, true, true, true, true, true, true, false, false, false, false, false, false, false, false, false, false, false, false, false] rfl rfl (any_of HT_.out (by kernel_rfl)) (fun _ _ _ h => h) (Or.inl ⟨by rfl, ?_⟩) ?_ ?_
       rotate_left
       ·intro w'
        go_simp
        with_reducible rfl
       rotate_left
       ·simp only [Act.put, List.setIfInBounds_toArray, List.set_cons_zero, List.set_cons_succ, i64_w, i32_w]
        rfl
       refine pure_ (i := 12) (N := some 17) (v := ?_) (a' := ?_) #[true, true, true, true, true, true, true, true, true, true, true, true, true, false, false, false, false, false, false, false, false, false, false, false, false] rfl rfl (any_of HT_.out (by kernel_rfl)) (fun _ _ _ h => h) (Or.inl ⟨by rfl, ?_⟩) ?_ ?_
       rotate_left
       ·intro w'
        go_simp
        with_reducible rfl
       rotate_left
       ·simp only [Act.put, List.setIfInBounds_toArray, List.set_cons_zero, List.set_cons_succ, i64_w, i32_w]
        rfl
       refine pure_ (i := 13) (N := some 18) (v := ?_) (a' := ?_) #[true, true, true, true, true, true, true, true, true, true, true, true, true, true, false, false, false, false, false, false, false, false, false, false, false] rfl rfl (any_of HT_.out (by kernel_rfl)) (fun _ _ _ h => h) (Or.inl ⟨by rfl, ?_⟩) ?_ ?_
       rotate_left
       ·intro w'
        go_simp
        with_reducible rfl
       rotate_left
       ·simp only [Act.put, List.setIfInBounds_toArray, List.set_cons_zero, List.set_cons_succ, i64_w, i32_w]
        rfl
       refine pure_ (i := 14) (N := some 19) (v := ?_) (a' := ?_) #[true, true, true, true, true, true, true, true, true, true, true, true, true, true, true, false, false, false, false, false, false, false, false, false, false] rfl rfl (any_of HT_.out (by kernel_rfl)) (fun _ _ _ h => h) (Or.inl ⟨by rfl, ?_⟩) ?_ ?_
       rotate_left
       ·intro w'
        go_simp
        with_reducible rfl
       rotate_left
       ·simp only [Act.put, List.setIfInBounds_toArray, List.set_cons_zero, List.set_cons_succ, i64_w, i32_w]
        rfl
       refine pure_ (i := 16) (N := some 21) (v := ?_) (a' := ?_) #[true, true, true, true, true, true, true, true, true, true, true, true, true, true, true, false, true, false, false, false, false, false, false, false, false] rfl rfl (any_of HT_.out (by kernel_rfl)) (fun _ _ _ h => h) (Or.inl ⟨by rfl, ?_⟩) ?_ ?_
       rotate_left
       ·intro w'
        go_simp
        with_reducible rfl
       rotate_left
       ·simp only [Act.put, List.setIfInBounds_toArray, List.set_cons_zero, List.set_cons_succ, i64_w, i32_w]
        rfl
       refine pure_ (i := 17) (N := some 22) (v := ?_) (a' := ?_) #[true, true, true, true, true, true, true, true, true, true, true, true, true, true, true, false, true, true, false, false, false, false, false, false, false] rfl rfl (any_of HT_.out (by kernel_rfl)) (fun _ _ _ h => h) (Or.inl ⟨by rfl, ?_⟩) ?_ ?_
       rotate_left
       ·intro w'
        go_simp
        with_reducible rfl
       rotate_left
       ·simp only [Act.put, List.setIfInBounds_toArray, List.set_cons_zero, List.set_cons_succ, i64_w, i32_w]
        rfl
       refine take_ (i := 15) (N := some 20) (v := ?_) (a' := ?_) #[true, true, true, true, true, true, true, true, true, true, true, true, true, true, true, true, true, true, false, false, false, false, false, false, false] rfl rfl (take_ofW HT_.out HW_.out (by kernel_rfl)) (fun _ _ _ h => h) (Or.inl ⟨by rfl, ?_⟩) hHeld ?_ ?_
       rotate_left
       ·rintro w' ⟨s0, s1, s2, s3, s4⟩
        go_simp
        with_reducible rfl
       rotate_left
       ·simp only [Act.put, List.setIfInBounds_toArray, List.set_cons_zero, List.set_cons_succ, i64_w, i32_w]
        rfl
       refine take_ (i := 18) (N := some 23) (v := ?_) (a' := ?_) #[true, true, true, true, true, true, true, true, true, true, true, true, true, true, true, true, true, true, true, false, false, false, false, false, false] rfl rfl (take_ofW HT_.out HW_.out (by kernel_rfl)) (fun _ _ _ h => h) (Or.inl ⟨by rfl, ?_⟩) hHeld ?_ ?_
       rotate_left
       ·rintro w' ⟨s0, s1, s2, s3, s4⟩
        go_simp
        with_reducible rfl
       rotate_left
       ·simp only [Act.put, List.setIfInBounds_toArray, List.set_cons_zero, List.set_cons_succ, i64_w, i32_w]
        rfl
       refine pure_ (i := 19) (N := some 24) (v := ?_) (a' := ?_) #[true, true, true, true, true, true, true, true, true, true, true, true, true, true, true, true, true, true, true, true, false, false, false, false, false] rfl rfl (any_of HT_.out (by kernel_rfl)) (fun _ _ _ h => h) (Or.inl ⟨by rfl, ?_⟩) ?_ ?_
       rotate_left
       ·intro w'
        go_simp
        with_reducible rfl
       rotate_left
       ·simp only [Act.put, List.setIfInBounds_toArray, List.set_cons_zero, List.set_cons_succ, i64_w, i32_w]
        rfl
       refine take_ (i := 20) (N := some 25) (v := ?_) (a' := ?_) #[true, true, true, true, true, true, true, true, true, true, true, true, true, true, true, true, true, true, true, true, true, false, false, false, false] rfl rfl (take_ofW HT_.out HW_.out (by kernel_rfl)) (fun _ _ _ h => h) (Or.inl ⟨by rfl, ?_⟩) hHeld ?_ ?_
       rotate_left
       ·rintro w' ⟨s0, s1, s2, s3, s4⟩
        go_simp
        with_reducible rfl
       rotate_left
       ·simp only [Act.put, List.setIfInBounds_toArray, List.set_cons_zero, List.set_cons_succ, i64_w, i32_w]
        rfl
       refine pure_ (i := 21) (N := some 26) (v := ?_) (a' := ?_) #[true, true, true, true, true, true, true, true, true, true, true, true, true, true, true, true, true, true, true, true, true, true, false, false, false] rfl rfl (any_of HT_.out (by kernel_rfl)) (fun _ _ _ h => h) (Or.inl ⟨by rfl, ?_⟩) ?_ ?_
       rotate_left
       ·intro w'
        go_simp
        with_reducible rfl
       rotate_left
       ·simp only [Act.put, List.setIfInBounds_toArray, List.set_cons_zero, List.set_cons_succ, i64_w, i32_w]
        rfl
       refine pure_ (i := 22) (N := some 27) (v := ?_) (a' := ?_) #[true, true, true, true, true, true, true, true, true, true, true, true, true, true, true, true, true, true, true, true, true, true, true, false, false] rfl rfl (any_of HT_.out (by kernel_rfl)) (fun _ _ _ h => h) (Or.inl ⟨by rfl, ?_⟩) ?_ ?_
       rotate_left
       ·intro w'
        go_simp
        with_reducible rfl
       rotate_left
       ·simp only [Act.put, List.setIfInBounds_toArray, List.set_cons_zero, List.set_cons_succ, i64_w, i32_w]
        rfl
       refine pure_ (i := 23) (N := some 28) (v := ?_) (a' := ?_) #[true, true, true, true, true, true, true, true, true, true, true, true, true, true, true, true, true, true, true, true, true, true, true, true, false] rfl rfl (any_of HT_.out (by kernel_rfl)) (fun _ _ _ h => h) (Or.inl ⟨by rfl, ?_⟩) ?_ ?_
       rotate_left
       ·intro w'
        go_simp
        with_reducible rfl
       rotate_left
       ·simp only [Act.put, List.setIfInBounds_toArray, List.set_cons_zero, List.set_cons_succ, i64_w, i32_w]
        rfl
       refine pure_ (i := 24) (N := some 4) (v := ?_) (a' := ?_) #[true, true, true, true, true, true, true, true, true, true, true, true, true, true, true, true, true, true, true, true, true, true, true, true, true] rfl rfl (any_of HT_.out (by kernel_rfl)) (fun _ _ _ h => h) (Or.inl ⟨by rfl, ?_⟩) ?_ ?_
       rotate_left
       ·intro w'
        go_simp
        with_reducible rfl
       rotate_left
       ·simp only [Act.put, List.setIfInBounds_toArray, List.set_cons_zero, List.set_cons_succ, i64_w, i32_w]
        rfl
       refine done_ (done_of HT_.out (by kernel_rfl)) ?_
       try go_wp2
       go_ret
       exact ⟨by first | rfl | (simp [errW_none, errW_some] <;> rfl) | (simp [*, errW_none, errW_some] <;> rfl), by repeat (first | (with_reducible first | exact HB.out | apply below_alloc | apply pw_below_drewN | apply below_drew1 | refine below_set ?_ GE332.out) | exact HB.out)⟩
      ·rw [if_neg c9] at H
       exact absurd H (by simp)
     ·rw [if_neg c8] at H
      exact absurd H (by simp)
    ·rw [if_neg c7] at H
     have c7b0 : decide (a1_2 ≤ (rd l0 a1_0)) = false := decide_eq_false c7
     clear c7
     obtain rfl := Option.some.inj H
     go_enter Try.func149, Try.ntmps149
     try go_wp2_with (first | ((with_reducible refine gate_dst (N := 3) rfl ?_); refine box_event ?hg (N := 3) ?hd (cs := #[.int .i64 a1_0, .int .i64 a1_1, .int .i64 a1_2]) (t := 52) ?hr ?_; (case hd => rfl); (case hg => rfl); (case hr => first | (go_simp; done) | (go_simp; rfl)); intro gb332 hg w13 hbox hb; have n0_ := Aside0.mk (below_step (by repeat (first | (with_reducible first | exact HB.out | apply below_alloc | apply pw_below_drewN | apply below_drew1) | exact HB.out)) hb); have n1_ := Aside0.mk (hbox); have n2_ := Aside0.mk ((by rw [hg]; exact (below_size (by repeat (first | (with_reducible first | exact HB.out | apply below_alloc | apply pw_below_drewN | apply below_drew1) | exact HB.out))) : w.heap.size ≤ gb332)); have n3_ := Aside0.mk ((by rw [hg]; exact (below_size (by repeat (first | (with_reducible first | exact HB.out | apply below_alloc | apply pw_below_drewN | apply below_drew1) | exact HB.out))) : w.heap.size ≤ gb332)); clear HB; have HB := n0_; have BK332 := n1_; have GW332 := n2_; have GE332 := n3_; clear n0_ n1_ n2_ n3_; clear hb hbox hg))
     have n0_ := Aside0.mk (blk_drew BK332.out)
     have n1_ := Aside0.mk (below_drew1 HB.out)
     clear BK332
     clear HB
     have BK332 := n0_
     have HB := n1_
     clear n0_ n1_
     have p334 : 0 ≤ (a1_0 : Int) := of_decide_eq_true (by first | (with_reducible assumption) | assumption)
     have q334 : a1_0 < (l0.length : Int) := of_decide_eq_true (by first | (with_reducible assumption) | assumption)
     obtain ⟨ad334, e334, hx334_0⟩ := Kd.at_int HR0.out a1_0 p334 q334
     have hw334_0 := hx334_0
     cases e334
     replace hx334_0 := (HB.out.cell (World.block_lt_of_cell? w _ hx334_0)).trans hx334_0
     replace p334 := eq_true p334
     replace q334 := eq_true q334
     refine start_ (n := 25) (S := fun w' => w'.cell? ⟨gb332, 0, none⟩ = some (.int .i64 a1_0) ∧ w'.cell? ⟨gb332, 1, none⟩ = some (.int .i64 a1_1) ∧ w'.cell? ⟨gb332, 2, none⟩ = some (.int .i64 a1_2) ∧ w'.cell? (ad334.add (a1_0).toNat) = some (.int .i64 (rd l0 a1_0))) (ds := []) #[false, false, false, false, false, false, false, false, false, false, false, false, false, false, false, false, false, false, false, false, false, false, false, false, false] (by kernel_rfl) rfl rfl ⟨(blk_cell BK332.out 0).trans rfl, (blk_cell BK332.out 1).trans rfl, (blk_cell BK332.out 2).trans rfl, ((HB.out.cell (World.block_lt_of_cell? w _ hw334_0)).trans hw334_0)⟩ (fun hHeld => ?_); refine with_tabW impl_canGive.tab1 impl_canGive.bits1 (fun HT_ HW_ => ?_)
     generalize w13.drew = w14 at BK332 HB hx334_0 hHeld ⊢
     refine pure_ (i := 0) (N := some 5) (v := ?_) (a' := ?_) #[true, false, false, false, false, false, false, false, false, false, false, false, false, false, false, false, false, false, false, false, false, false, false, false, false] rfl rfl (any_of HT_.out (by kernel_rfl)) (fun _ _ _ h => h) (Or.inl ⟨by rfl, ?_⟩) ?_ ?_
     rotate_left
     ·intro w'
      go_simp
      with_reducible rfl
     rotate_left
     ·simp only [Act.put, List.setIfInBounds_toArray, List.set_cons_zero, List.set_cons_succ, i64_w, i32_w]
      rfl
     refine take_ (i := 1) (N := some 6) (v := ?_) (a' := ?_) #[true, true, false, false, false, false, false, false, false, false, false, false, false, false, false, false, false, false, false, false, false, false, false, false, false] rfl rfl (take_ofW HT_.out HW_.out (by kernel_rfl)) (fun _ _ _ h => h) (Or.inl ⟨by rfl, ?_⟩) hHeld ?_ ?_
     rotate_left
     ·rintro w' ⟨s0, s1, s2, s3⟩
      go_simp
      with_reducible rfl
     rotate_left
     ·simp only [Act.put, List.setIfInBounds_toArray, List.set_cons_zero, List.set_cons_succ, i64_w, i32_w]
      rfl
     refine one_ (i := 2) (N := some 7) #[true, true, true, false, false, false, false, false, false, false, false, false, false, false, false, false, false, false, false, false, false, false, false, false, false] rfl rfl (one_of HT_.out (by kernel_rfl)) (by decide) (fun K hK => ?_)
     refine goes_ Try.func212 (by kernel_rfl) rfl #[.slice _ l0.length c0, .agg #[.int .i64 a1_0, .int .i64 a1_1, .int .i64 a1_2]] (by rfl) rfl rfl (by (try simp only [List.map_toArray, List.map_cons, List.map_nil]); first | done | rfl | (simp only [List.length_drop, List.length_take]; rfl)) ?_
     with_reducible refine (impl_isGift.calls _ _ l0 a1_0 a1_1 a1_2 true _ ?side1 ?side2 A3.out).mono ?_
     (case side1 => repeat (first | exact (Kd.C_below HR0.out HB.out) | (with_reducible refine Kd.C_alloc ?_ _) | (with_reducible refine Kd.C_drewN ?_ _) | (with_reducible refine Kd.C_drew ?_)))
     (case side2 => exact HC0.out)
     rintro e w15 ⟨rfl, hb⟩
     refine ⟨_, rfl, ?_⟩
     have n0_ := Aside0.mk (blk_below (g := gb332) (o := .cells #[.int .i64 a1_0, .int .i64 a1_1, .int .i64 a1_2] 52 (0, 0)) (by (with_reducible repeat (first | refine blk_drewN ?_ _ | refine blk_drew ?_ | refine blk_alloc ?_ _)); exact BK332.out) hb)
     have n1_ := Aside0.mk (below_step (by repeat (first | (with_reducible first | exact HB.out | apply below_alloc | apply pw_below_drewN | apply below_drew1 | refine below_set ?_ GE332.out) | exact HB.out)) hb)
     clear BK332
     clear HB
     have BK332 := n0_
     have HB := n1_
     clear n0_ n1_
     (try clear hb)
     (try clear hb2)
     (try clear hk)
     (try clear hi)
     refine hK.out _ _ ⟨(blk_cell BK332.out 0).trans rfl, (blk_cell BK332.out 1).trans rfl, (blk_cell BK332.out 2).trans rfl, ((HB.out.cell (World.block_lt_of_cell? w _ hw334_0)).trans hw334_0)⟩ (fun hHeld => ?_)
     clear hK K
     refine norm_ (a' := ?_) ?_ ?_
     rotate_left
     ·show Act.put _ (some 7) _ = _
      simp only [Act.put, List.setIfInBounds_toArray, List.set_cons_zero, List.set_cons_succ, i64_w, i32_w]
      rfl
     refine pure_ (i := 3) (N := some 8) (v := ?_) (a' := ?_) #[true, true, true, true, false, false, false, false, false, false, false, false, false, false, false, false, false, false, false, false, false, false, false, false, false] rfl rfl (any_of HT_.out (by kernel_rfl)) (fun _ _ _ h => h) (Or.inl ⟨by rfl, ?_⟩) ?_ ?_
     rotate_left
     ·intro w'
      go_simp
      with_reducible rfl
     rotate_left
     ·simp only [Act.put, List.setIfInBounds_toArray, List.set_cons_zero, List.set_cons_succ, i64_w, i32_w]
      rfl
     refine pure_ (i := 4) (N := some 9) (v := ?_) (a' := ?_) #[true, true, true, true, true, false, false, false, false, false, false, false, false, false, false, false, false, false, false, false, false, false, false, false, false] rfl rfl (any_of HT_.out (by kernel_rfl)) (fun _ _ _ h => h) (Or.inl ⟨by rfl, ?_⟩) ?_ ?_
     rotate_left
     ·intro w'
      go_simp
      with_reducible rfl
     rotate_left
     ·simp only [Act.put, List.setIfInBounds_toArray, List.set_cons_zero, List.set_cons_succ, i64_w, i32_w]
      rfl
     refine pure_ (i := 6) (N := some 11) (v := ?_) (a' := ?_) #[true, true, true, true, true, false, true, false, false, false, false, false, false, false, false, false, false, false, false, false, false, false, false, false, false] rfl rfl (any_of HT_.out (by kernel_rfl)) (fun _ _ _ h => h) (Or.inl ⟨by rfl, ?_⟩) ?_ ?_
     rotate_left
     ·intro w'
      go_simp
      with_reducible rfl
     rotate_left
     ·simp only [Act.put, List.setIfInBounds_toArray, List.set_cons_zero, List.set_cons_succ, i64_w, i32_w]
      rfl
     refine pure_ (i := 7) (N := some 12) (v := ?_) (a' := ?_) #[true, true, true, true, true, false, true, true, false, false, false, false, false, false, false, false, false, false, false, false, false, false, false, false, false] rfl rfl (any_of HT_.out (by kernel_rfl)) (fun _ _ _ h => h) (Or.inl ⟨by rfl, ?_⟩) ?_ ?_
     rotate_left
     ·intro w'
      go_simp
      with_reducible rfl
     rotate_left
     ·simp only [Act.put, List.setIfInBounds_toArray, List.set_cons_zero, List.set_cons_succ, i64_w, i32_w]
      rfl
     refine take_ (i := 5) (N := some 10) (v := ?_) (a' := ?_) #[true, true, true, true, true, true, true, true, false, false, false, false, false, false, false, false, false, false, false, false, false, false, false, false, false] rfl rfl (take_ofW HT_.out HW_.out (by kernel_rfl)) (fun _ _ _ h => h) (Or.inl ⟨by rfl, ?_⟩) hHeld ?_ ?_
     rotate_left
     ·rintro w' ⟨s0, s1, s2, s3⟩
      go_simp
      with_reducible rfl
     rotate_left
     ·simp only [Act.put, List.setIfInBounds_toArray, List.set_cons_zero, List.set_cons_succ, i64_w, i32_w]
      rfl
     refine take_ (i := 8) (N := some 13) (v := ?_) (a' := ?_) #[true, true, true, true, true, true, true, true, true, false, false, false, false, false, false, false, false, false, false, false, false, false, false, false, false] rfl rfl (take_ofW HT_.out HW_.out (by kernel_rfl)) (fun _ _ _ h => h) (Or.inl ⟨by rfl, ?_⟩) hHeld ?_ ?_
     rotate_left
     ·rintro w' ⟨s0, s1, s2, s3⟩
      go_simp
      with_reducible rfl
     rotate_left
     ·simp only [Act.put, List.setIfInBounds_toArray, List.set_cons_zero, List.set_cons_succ, i64_w, i32_w]
      rfl
     refine pure_ (i := 9) (N := some 14) (v := ?_) (a' := ?_) #[true, true, true, true, true, true, true, true, true, true, false, false, false, false, false, false, false, false, false, false, false, false, false, false, false] rfl rfl (any_of HT_.out (by kernel_rfl)) (fun _ _ _ h => h) (Or.inl ⟨by rfl, ?_⟩) ?_ ?_
     rotate_left
     ·intro w'
      go_simp
      with_reducible rfl
     rotate_left
     ·simp only [Act.put, List.setIfInBounds_toArray, List.set_cons_zero, List.set_cons_succ, i64_w, i32_w]
      rfl
     refine take_ (i := 10) (N := some 15) (v := ?_) (a' := ?_) #[true, true, true, true, true, true, true, true, true, true, true, false, false, false, false, false, false, false, false, false, false, false, false, false, false] rfl rfl (take_ofW HT_.out HW_.out (by kernel_rfl)) (fun _ _ _ h => h) (Or.inl ⟨by rfl, ?_⟩) hHeld ?_ ?_
     rotate_left
     ·rintro w' ⟨s0, s1, s2, s3⟩
      go_simp
      with_reducible rfl
     rotate_left
     ·simp only [Act.put, List.setIfInBounds_toArray, List.set_cons_zero, List.set_cons_succ, i64_w, i32_w]
      rfl
     refine pure_ (i := 11) (N := some 16) (v := ?_) (a' := ?_) #[true, true, true, true, true, true, true, true, true, true, true, true, false, false, false, false, false, false, false, false, false, false, false, false, false] rfl rfl (any_of HT_.out (by kernel_rfl)) (fun _ _ _ h => h) (Or.inl ⟨by rfl, ?_⟩) ?_ ?_
     rotate_left
     ·intro w'
      go_simp
      with_reducible rfl
     rotate_left
     ·simp only [Act.put, List.setIfInBounds_toArray, List.set_cons_zero, List.set_cons_succ, i64_w, i32_w]
      rfl
     refine pure_ (i := 12) (N := some 17) (v := ?_) (a' := ?_) #[true, true, true, true, true, true, true, true, true, true, true, true, true, false, false, false, false, false, false, false, false, false, false, false, false] rfl rfl (any_of HT_.out (by kernel_rfl)) (fun _ _ _ h => h) (Or.inl ⟨by rfl, ?_⟩) ?_ ?_
     rotate_left
     ·intro w'
      go_simp
      with_reducible rfl
     rotate_left
     ·simp only [Act.put, List.setIfInBounds_toArray, List.set_cons_zero, List.set_cons_succ, i64_w, i32_w]
      rfl
     refine pure_ (i := 13) (N := some 18) (v := ?_) (a' := ?_) #[true, true, true, true, true, true, true, true, true, true, true, true, true, true, false, false, false, false, false, false, false, false, false, false, false] rfl rfl (any_of HT_.out (by kernel_rfl)) (fun _ _ _ h => h) (Or.inl ⟨by rfl, ?_⟩) ?_ ?_
     rotate_left
     ·intro w'
      go_simp
      with_reducible rfl
     rotate_left
     ·simp only [Act.put, List.setIfInBounds_toArray, List.set_cons_zero, List.set_cons_succ, i64_w, i32_w]
      rfl
     refine pure_ (i := 14) (N := some 19) (v := undef) (a' := ?_) #[true, true, true, true, true, true, true, true, true, true, true, true, true, true, true, false, false, false, false, false, false, false, false, false, false] rfl rfl (any_of HT_.out (by kernel_rfl)) (fun _ _ _ h => h) (Or.inr ⟨by rfl, rfl⟩) ?_ ?_
     rotate_left
     ·simp only [Act.put, List.setIfInBounds_toArray, List.set_cons_zero, List.set_cons_succ, i64_w, i32_w]
      rfl
     refine pure_ (i := 15) (N := some 20) (v := undef) (a' := ?_) #[true, true, true, true, true, true, true, true, true, true, true, true, true, true, true, true, false, false, false, false, false, false, false, false, false] rfl rfl (any_of HT_.out (by kernel_rfl)) (fun _ _ _ h => h) (Or.inr ⟨by rfl, rfl⟩) ?_ ?_
     rotate_left
     ·simp only [Act.put, List.setIfInBounds_toArray, List.set_cons_zero, List.set_cons_succ, i64_w, i32_w]
      rfl
     refine pure_ (i := 16) (N := some 21) (v := undef) (a' := ?_) #[true, true, true, true, true, true, true, true, true, true, true, true, true, true, true, true, true, false, false, false, false, false, false, false, false] rfl rfl (any_of HT_.out (by kernel_rfl)) (fun _ _ _ h => h) (Or.inr ⟨by rfl, rfl⟩) ?_ ?_
     rotate_left
     ·simp only [Act.put, List.setIfInBounds_toArray, List.set_cons_zero, List.set_cons_succ, i64_w, i32_w]
      rfl
     refine pure_ (i := 17) (N := some 22) (v := undef) (a' := ?_) #[true, true, true, true, true, true, true, true, true, true, true, true, true, true, true, true, true, true, false, false, false, false, false, false, false] rfl rfl (any_of HT_.out (by kernel_rfl)) (fun _ _ _ h => h) (Or.inr ⟨by rfl, rfl⟩) ?_ ?_
     rotate_left
     ·simp only [Act.put, List.setIfInBounds_toArray, List.set_cons_zero, List.set_cons_succ, i64_w, i32_w]
      rfl
     refine pure_ (i := 18) (N := some 23) (v := undef) (a' := ?_) #[true, true, true, true, true, true, true, true, true, true, true, true, true, true, true, true, true, true, true, false, false, false, false, false, false] rfl rfl (any_of HT_.out (by kernel_rfl)) (fun _ _ _ h => h) (Or.inr ⟨by rfl, rfl⟩) ?_ ?_
     rotate_left
     ·simp only [Act.put, List.setIfInBounds_toArray, List.set_cons_zero, List.set_cons_succ, i64_w, i32_w]
      rfl
     refine pure_ (i := 19) (N := some 24) (v := undef) (a' := ?_) #[true, true, true, true, true, true, true, true, true, true, true, true, true, true, true, true, true, true, true, true, false, false, false, false, false] rfl rfl (any_of HT_.out (by kernel_rfl)) (fun _ _ _ h => h) (Or.inr ⟨by rfl, rfl⟩) ?_ ?_
     rotate_left
     ·simp only [Act.put, List.setIfInBounds_toArray, List.set_cons_zero, List.set_cons_succ, i64_w, i32_w]
      rfl
     refine pure_ (i := 20) (N := some 25) (v := undef) (a' := ?_) #[true, true, true, true, true, true, true, true, true, true, true, true, true, true, true, true, true, true, true, true, true, false, false, false, false] rfl rfl (any_of HT_.out (by kernel_rfl)) (fun _ _ _ h => h) (Or.inr ⟨by rfl, rfl⟩) ?_ ?_
     rotate_left
     ·simp only [Act.put, List.setIfInBounds_toArray, List.set_cons_zero, List.set_cons_succ, i64_w, i32_w]
      rfl
     refine pure_ (i := 21) (N := some 26) (v := undef) (a' := ?_) #[true, true, true, true, true, true, true, true, true, true, true, true, true, true, true, true, true, true, true, true, true, true, false, false, false] rfl rfl (any_of HT_.out (by kernel_rfl)) (fun _ _ _ h => h) (Or.inr ⟨by rfl, rfl⟩) ?_ ?_
     rotate_left
     ·simp only [Act.put, List.setIfInBounds_toArray, List.set_cons_zero, List.set_cons_succ, i64_w, i32_w]
      rfl
     refine pure_ (i := 22) (N := some 27) (v := undef) (a' := ?_) #[true, true, true, true, true, true, true, true, true, true, true, true, true, true, true, true, true, true, true, true, true, true, true, false, false] rfl rfl (any_of HT_.out (by kernel_rfl)) (fun _ _ _ h => h) (Or.inr ⟨by rfl, rfl⟩) ?_ ?_
     rotate_left
     ·simp only [Act.put, List.setIfInBounds_toArray, List.set_cons_zero, List.set_cons_succ, i64_w, i32_w]
      rfl
     refine pure_ (i := 23) (N := some 28) (v := ?_) (a' := ?_) #[true, true, true, true, true, true, true, true, true, true, true, true, true, true, true, true, true, true, true, true, true, true, true, true, false] rfl rfl (any_of HT_.out (by kernel_rfl)) (fun _ _ _ h => h) (Or.inl ⟨by rfl, ?_⟩) ?_ ?_
     rotate_left
     ·intro w'
      go_simp
      with_reducible rfl
     rotate_left
     ·simp only [Act.put, List.setIfInBounds_toArray, List.set_cons_zero, List.set_cons_succ, i64_w, i32_w]
      rfl
     refine pure_ (i := 24) (N := some 4) (v := ?_) (a' := ?_) #[true, true, true, true, true, true, true, true, true, true, true, true, true, true, true, true, true, true, true, true, true, true, true, true, true] rfl rfl (any_of HT_.out (by kernel_rfl)) (fun _ _ _ h => h) (Or.inl ⟨by rfl, ?_⟩) ?_ ?_
     rotate_left
     ·intro w'
      go_simp
      with_reducible rfl
     rotate_left
     ·simp only [Act.put, List.setIfInBounds_toArray, List.set_cons_zero, List.set_cons_succ, i64_w, i32_w]
      rfl
     refine done_ (done_of HT_.out (by kernel_rfl)) ?_
     try go_wp2
     go_ret
     exact ⟨by first | rfl | (simp [errW_none, errW_some] <;> rfl) | (simp [*, errW_none, errW_some] <;> rfl), by repeat (first | (with_reducible first | exact HB.out | apply below_alloc | apply pw_below_drewN | apply below_drew1 | refine below_set ?_ GE332.out) | exact HB.out)⟩
   ·rw [if_neg c6] at H
    exact absurd H (by simp)
  ·rw [if_neg c5] at H
   exact absurd H (by simp)
 ·replace c4 := Bool.eq_false_iff.mpr c4
  subst c4
  have H1 : (some false) = some r := by rw [if_neg (show ¬ (false = true) by decide)] at H; exact H
  clear H
  have H := H1
  clear H1
  obtain rfl := Option.some.inj H
  go_enter Try.func149, Try.ntmps149
  try go_wp2_with (first | ((with_reducible refine gate_dst (N := 3) rfl ?_); refine box_event ?hg (N := 3) ?hd (cs := #[.int .i64 a1_0, .int .i64 a1_1, .int .i64 a1_2]) (t := 52) ?hr ?_; (case hd => rfl); (case hg => rfl); (case hr => first | (go_simp; done) | (go_simp; rfl)); intro gb332 hg w16 hbox hb; have n0_ := Aside0.mk (below_step (by repeat (first | (with_reducible first | exact HB.out | apply below_alloc | apply pw_below_drewN | apply below_drew1) | exact HB.out)) hb); have n1_ := Aside0.mk (hbox); have n2_ := Aside0.mk ((by rw [hg]; exact (below_size (by repeat (first | (with_reducible first | exact HB.out | apply below_alloc | apply pw_below_drewN | apply below_drew1) | exact HB.out))) : w.heap.size ≤ gb332)); have n3_ := Aside0.mk ((by rw [hg]; exact (below_size (by repeat (first | (with_reducible first | exact HB.out | apply below_alloc | apply pw_below_drewN | apply below_drew1) | exact HB.out))) : w.heap.size ≤ gb332)); clear HB; have HB := n0_; have BK332 := n1_; have GW332 := n2_; have GE332 := n3_; clear n0_ n1_ n2_ n3_; clear hb hbox hg))
  have n0_ := Aside0.mk (blk_drew BK332.out)
  have n1_ := Aside0.mk (below_drew1 HB.out)
  clear BK332
  clear HB
  have BK332 := n0_
  have HB := n1_
  clear n0_ n1_
  refine start_ (n := 25) (S := fun w' => w'.cell? ⟨gb332, 0, none⟩ = some (.int .i64 a1_0) ∧ w'.cell? ⟨gb332, 1, none⟩ = some (.int .i64 a1_1) ∧ w'.cell? ⟨gb332, 2, none⟩ = some (.int .i64 a1_2)) (ds := []) #[false, false, false, false, false, false, false, false, false, false, false, false, false, false, false, false, false, false, false, false, false, false, false, false, false] (by kernel_rfl) rfl rfl ⟨(blk_cell BK332.out 0).trans rfl, (blk_cell BK332.out 1).trans rfl, (blk_cell BK332.out 2).trans rfl⟩ (fun hHeld => ?_); refine with_tabW impl_canGive.tab1 impl_canGive.bits1 (fun HT_ HW_ => ?_)
  generalize w16.drew = w17 at BK332 HB hHeld ⊢
  refine pure_ (i := 0) (N := some 5) (v := ?_) (a' := ?_) #[true, false, false, false, false, false, false, false, false, false, false, false, false, false, false, false, false, false, false, false, false, false, false, false, false] rfl rfl (any_of HT_.out (by kernel_rfl)) (fun _ _ _ h => h) (Or.inl ⟨by rfl, ?_⟩) ?_ ?_
  rotate_left
  ·intro w'
   go_simp
   with_reducible rfl
  rotate_left
  ·simp only [Act.put, List.setIfInBounds_toArray, List.set_cons_zero, List.set_cons_succ, i64_w, i32_w]
   rfl
  refine take_ (i := 1) (N := some 6) (v := ?_) (a' := ?_) #[true, true, false, false, false, false, false, false, false, false, false, false, false, false, false, false, false, false, false, false, false, false, false, false, false] rfl rfl (take_ofW HT_.out HW_.out (by kernel_rfl)) (fun _ _ _ h => h) (Or.inl ⟨by rfl, ?_⟩) hHeld ?_ ?_
  rotate_left
  ·rintro w' ⟨s0, s1, s2⟩
   go_simp
   with_reducible rfl
  rotate_left
  ·simp only [Act.put, List.setIfInBounds_toArray, List.set_cons_zero, List.set_cons_succ, i64_w, i32_w]
   rfl
  refine one_ (i := 2) (N := some 7) #[true, true, true, false, false, false, false, false, false, false, false, false, false, false, false, false, false, false, false, false, false, false, false, false, false] rfl rfl (one_of HT_.out (by kernel_rfl)) (by decide) (fun K hK => ?_)
  refine goes_ Try.func212 (by kernel_rfl) rfl #[.slice _ l0.length c0, .agg #[.int .i64 a1_0, .int .i64 a1_1, .int .i64 a1_2]] (by rfl) rfl rfl (by (try simp only [List.map_toArray, List.map_cons, List.map_nil]); first | done | rfl | (simp only [List.length_drop, List.length_take]; rfl)) ?_
  with_reducible refine (impl_isGift.calls _ _ l0 a1_0 a1_1 a1_2 false _ ?side1 ?side2 A3.out).mono ?_
  (case side1 => repeat (first | exact (Kd.C_below HR0.out HB.out) | (with_reducible refine Kd.C_alloc ?_ _) | (with_reducible refine Kd.C_drewN ?_ _) | (with_reducible refine Kd.C_drew ?_)))
  (case side2 => exact HC0.out)
  rintro e w18 ⟨rfl, hb⟩
  refine ⟨_, rfl, ?_⟩
  have n0_ := Aside0.mk (blk_below (g := gb332) (o := .cells #[.int .i64 a1_0, .int .i64 a1_1, .int .i64 a1_2] 52 (0, 0)) (by (with_reducible repeat (first | refine blk_drewN ?_ _ | refine blk_drew ?_ | refine blk_alloc ?_ _)); exact BK332.out) hb)
  have n1_ := Aside0.mk (below_step (by repeat (first | (with_reducible first | exact HB.out | apply below_alloc | apply pw_below_drewN | apply below_drew1 | refine below_set ?_ GE332.out) | exact HB.out)) hb)
  clear BK332
  clear HB
  have BK332 := n0_
  have HB := n1_
  clear n0_ n1_
  (try clear hb)
  (try clear hb2)
  (try clear hk)
  (try clear hi)
  refine hK.out _ _ ⟨(blk_cell BK332.out 0).trans rfl, (blk_cell BK332.out 1).trans rfl, (blk_cell BK332.out 2).trans rfl⟩ (fun hHeld => ?_)
  clear hK K
  refine norm_ (a' := ?_) ?_ ?_
  rotate_left
  ·show Act.put _ (some 7) _ = _
   simp only [Act.put, List.setIfInBounds_toArray, List.set_cons_zero, List.set_cons_succ, i64_w, i32_w]
   rfl
  refine pure_ (i := 3) (N := some 8) (v := ?_) (a' := ?_) #[true, true, true, true, false, false, false, false, false, false, false, false, false, false, false, false, false, false, false, false, false, false, false, false, false] rfl rfl (any_of HT_.out (by kernel_rfl)) (fun _ _ _ h => h) (Or.inl ⟨by rfl, ?_⟩) ?_ ?_
  rotate_left
  ·intro w'
   go_simp
   with_reducible rfl
  rotate_left
  ·simp only [Act.put, List.setIfInBounds_toArray, List.set_cons_zero, List.set_cons_succ, i64_w, i32_w]
   rfl
  refine pure_ (i := 4) (N := some 9) (v := undef) (a' := ?_) #[true, true, true, true, true, false, false, false, false, false, false, false, false, false, false, false, false, false, false, false, false, false, false, false, false] rfl rfl (any_of HT_.out (by kernel_rfl)) (fun _ _ _ h => h) (Or.inr ⟨by rfl, rfl⟩) ?_ ?_
  rotate_left
  ·simp only [Act.put, List.setIfInBounds_toArray, List.set_cons_zero, List.set_cons_succ, i64_w, i32_w]
   rfl
  refine pure_ (i := 5) (N := some 10) (v := undef) (a' := ?_) #[true, true, true, true, true, true, false, false, false, false, false, false, false, false, false, false, false, false, false, false, false, false, false, false, false] rfl rfl (any_of HT_.out (by kernel_rfl)) (fun _ _ _ h => h) (Or.inr ⟨by rfl, rfl⟩) ?_ ?_
  rotate_left
  ·simp only [Act.put, List.setIfInBounds_toArray, List.set_cons_zero, List.set_cons_succ, i64_w, i32_w]
   rfl
  refine pure_ (i := 6) (N := some 11) (v := undef) (a' := ?_) #[true, true, true, true, true, true, true, false, false, false, false, false, false, false, false, false, false, false, false, false, false, false, false, false, false] rfl rfl (any_of HT_.out (by kernel_rfl)) (fun _ _ _ h => h) (Or.inr ⟨by rfl, rfl⟩) ?_ ?_
  rotate_left
  ·simp only [Act.put, List.setIfInBounds_toArray, List.set_cons_zero, List.set_cons_succ, i64_w, i32_w]
   rfl
  refine pure_ (i := 7) (N := some 12) (v := undef) (a' := ?_) #[true, true, true, true, true, true, true, true, false, false, false, false, false, false, false, false, false, false, false, false, false, false, false, false, false] rfl rfl (any_of HT_.out (by kernel_rfl)) (fun _ _ _ h => h) (Or.inr ⟨by rfl, rfl⟩) ?_ ?_
  rotate_left
  ·simp only [Act.put, List.setIfInBounds_toArray, List.set_cons_zero, List.set_cons_succ, i64_w, i32_w]
   rfl
  refine pure_ (i := 8) (N := some 13) (v := undef) (a' := ?_) #[true, true, true, true, true, true, true, true, true, false, false, false, false, false, false, false, false, false, false, false, false, false, false, false, false] rfl rfl (any_of HT_.out (by kernel_rfl)) (fun _ _ _ h => h) (Or.inr ⟨by rfl, rfl⟩) ?_ ?_
  rotate_left
  ·simp only [Act.put, List.setIfInBounds_toArray, List.set_cons_zero, List.set_cons_succ, i64_w, i32_w]
   rfl
  refine pure_ (i := 9) (N := some 14) (v := undef) (a' := ?_) #[true, true, true, true, true, true, true, true, true, true, false, false, false, false, false, false, false, false, false, false, false, false, false, false, false] rfl rfl (any_of HT_.out (by kernel_rfl)) (fun _ _ _ h => h) (Or.inr ⟨by rfl, rfl⟩) ?_ ?_
  rotate_left
  ·simp only [Act.put, List.setIfInBounds_toArray, List.set_cons_zero, List.set_cons_succ, i64_w, i32_w]
   rfl
  refine pure_ (i := 10) (N := some 15) (v := undef) (a' := ?_) #[true, true, true, true, true, true, true, true, true, true, true, false, false, false, false, false, false, false, false, false, false, false, false, false, false] rfl rfl (any_of HT_.out (by kernel_rfl)) (fun _ _ _ h => h) (Or.inr ⟨by rfl, rfl⟩) ?_ ?_
  rotate_left
  ·simp only [Act.put, List.setIfInBounds_toArray, List.set_cons_zero, List.set_cons_succ, i64_w, i32_w]
   rfl
  refine pure_ (i := 11) (N := some 16) (v := undef) (a' := ?_) #[true, true, true, true, true, true, true, true, true, true, true, true, false, false, false, false, false, false, false, false, false, false, false, false, false] rfl rfl (any_of HT_.out (by kernel_rfl)) (fun _ _ _ h => h) (Or.inr ⟨by rfl, rfl⟩) ?_ ?_
  rotate_left
  ·simp only [Act.put, List.setIfInBounds_toArray, List.set_cons_zero, List.set_cons_succ, i64_w, i32_w]
   rfl
  refine pure_ (i := 12) (N := some 17) (v := ?_) (a' := ?_) #[true, true, true, true, true, true, true, true, true, true, true, true, true, false, false, false, false, false, false, false, false, false, false, false, false] rfl rfl (any_of HT_.out (by kernel_rfl)) (fun _ _ _ h => h) (Or.inl ⟨by rfl, ?_⟩) ?_ ?_
  rotate_left
  ·intro w'
   go_simp
   with_reducible rfl
  rotate_left
  ·simp only [Act.put, List.setIfInBounds_toArray, List.set_cons_zero, List.set_cons_succ, i64_w, i32_w]
   rfl
  refine pure_ (i := 13) (N := some 18) (v := ?_) (a' := ?_) #[true, true, true, true, true, true, true, true, true, true, true, true, true, true, false, false, false, false, false, false, false, false, false, false, false] rfl rfl (any_of HT_.out (by kernel_rfl)) (fun _ _ _ h => h) (Or.inl ⟨by rfl, ?_⟩) ?_ ?_
  rotate_left
  ·intro w'
   go_simp
   with_reducible rfl
  rotate_left
  ·simp only [Act.put, List.setIfInBounds_toArray, List.set_cons_zero, List.set_cons_succ, i64_w, i32_w]
   rfl
  refine pure_ (i := 14) (N := some 19) (v := undef) (a' := ?_) #[true, true, true, true, true, true, true, true, true, true, true, true, true, true, true, false, false, false, false, false, false, false, false, false, false] rfl rfl (any_of HT_.out (by kernel_rfl)) (fun _ _ _ h => h) (Or.inr ⟨by rfl, rfl⟩) ?_ ?_
  rotate_left
  ·simp only [Act.put, List.setIfInBounds_toArray, List.set_cons_zero, List.set_cons_succ, i64_w, i32_w]
   rfl
  refine pure_ (i := 15) (N := some 20) (v := undef) (a' := ?_) #[true, true, true, true, true, true, true, true, true, true, true, true, true, true, true, true, false, false, false, false, false, false, false, false, false] rfl rfl (any_of HT_.out (by kernel_rfl)) (fun _ _ _ h => h) (Or.inr ⟨by rfl, rfl⟩) ?_ ?_
  rotate_left
  ·simp only [Act.put, List.setIfInBounds_toArray, List.set_cons_zero, List.set_cons_succ, i64_w, i32_w]
   rfl
  refine pure_ (i := 16) (N := some 21) (v := undef) (a' := ?_) #[true, true, true, true, true, true, true, true, true, true, true, true, true, true, true, true, true, false, false, false, false, false, false, false, false] rfl rfl (any_of HT_.out (by kernel_rfl)) (fun _ _ _ h => h) (Or.inr ⟨by rfl, rfl⟩) ?_ ?_
  rotate_left
  ·simp only [Act.put, List.setIfInBounds_toArray, List.set_cons_zero, List.set_cons_succ, i64_w, i32_w]
   rfl
  refine pure_ (i := 17) (N := some 22) (v := undef) (a' := ?_) #[true, true, true, true, true, true, true, true, true, true, true, true, true, true, true, true, true, true, false, false, false, false, false, false, false] rfl rfl (any_of HT_.out (by kernel_rfl)) (fun _ _ _ h => h) (Or.inr ⟨by rfl, rfl⟩) ?_ ?_
  rotate_left
  ·simp only [Act.put, List.setIfInBounds_toArray, List.set_cons_zero, List.set_cons_succ, i64_w, i32_w]
   rfl
  refine pure_ (i := 18) (N := some 23) (v := undef) (a' := ?_) #[true, true, true, true, true, true, true, true, true, true, true, true, true, true, true, true, true, true, true, false, false, false, false, false, false] rfl rfl (any_of HT_.out (by kernel_rfl)) (fun _ _ _ h => h) (Or.inr ⟨by rfl, rfl⟩) ?_ ?_
  rotate_left
  ·simp only [Act.put, List.setIfInBounds_toArray, List.set_cons_zero, List.set_cons_succ, i64_w, i32_w]
   rfl
  refine pure_ (i := 19) (N := some 24) (v := undef) (a' := ?_) #[true, true, true, true, true, true, true, true, true, true, true, true, true, true, true, true, true, true, true, true, false, false, false, false, false] rfl rfl (any_of HT_.out (by kernel_rfl)) (fun _ _ _ h => h) (Or.inr ⟨by rfl, rfl⟩) ?_ ?_
  rotate_left
  ·simp only [Act.put, List.setIfInBounds_toArray, List.set_cons_zero, List.set_cons_succ, i64_w, i32_w]
   rfl
  refine pure_ (i := 20) (N := some 25) (v := undef) (a' := ?_) #[true, true, true, true, true, true, true, true, true, true, true, true, true, true, true, true, true, true, true, true, true, false, false, false, false] rfl rfl (any_of HT_.out (by kernel_rfl)) (fun _ _ _ h => h) (Or.inr ⟨by rfl, rfl⟩) ?_ ?_
  rotate_left
  ·simp only [Act.put, List.setIfInBounds_toArray, List.set_cons_zero, List.set_cons_succ, i64_w, i32_w]
   rfl
  refine pure_ (i := 21) (N := some 26) (v := undef) (a' := ?_) #[true, true, true, true, true, true, true, true, true, true, true, true, true, true, true, true, true, true, true, true, true, true, false, false, false] rfl rfl (any_of HT_.out (by kernel_rfl)) (fun _ _ _ h => h) (Or.inr ⟨by rfl, rfl⟩) ?_ ?_
  rotate_left
  ·simp only [Act.put, List.setIfInBounds_toArray, List.set_cons_zero, List.set_cons_succ, i64_w, i32_w]
   rfl
  refine pure_ (i := 22) (N := some 27) (v := undef) (a' := ?_) #[true, true, true, true, true, true, true, true, true, true, true, true, true, true, true, true, true, true, true, true, true, true, true, false, false] rfl rfl (any_of HT_.out (by kernel_rfl)) (fun _ _ _ h => h) (Or.inr ⟨by rfl, rfl⟩) ?_ ?_
  rotate_left
  ·simp only [Act.put, List.setIfInBounds_toArray, List.set_cons_zero, List.set_cons_succ, i64_w, i32_w]
   rfl
  refine pure_ (i := 23) (N := some 28) (v := ?_) (a' := ?_) #[true, true, true, true, true, true, true, true, true, true, true, true, true, true, true, true, true, true, true, true, true, true, true, true, false] rfl rfl (any_of HT_.out (by kernel_rfl)) (fun _ _ _ h => h) (Or.inl ⟨by rfl, ?_⟩) ?_ ?_
  rotate_left
  ·intro w'
   go_simp
   with_reducible rfl
  rotate_left
  ·simp only [Act.put, List.setIfInBounds_toArray, List.set_cons_zero, List.set_cons_succ, i64_w, i32_w]
   rfl
  refine pure_ (i := 24) (N := some 4) (v := ?_) (a' := ?_) #[true, true, true, true, true, true, true, true, true, true, true, true, true, true, true, true, true, true, true, true, true, true, true, true, true] rfl rfl (any_of HT_.out (by kernel_rfl)) (fun _ _ _ h => h) (Or.inl ⟨by rfl, ?_⟩) ?_ ?_
  rotate_left
  ·intro w'
   go_simp
   with_reducible rfl
  rotate_left
  ·simp only [Act.put, List.setIfInBounds_toArray, List.set_cons_zero, List.set_cons_succ, i64_w, i32_w]
   rfl
  refine done_ (done_of HT_.out (by kernel_rfl)) ?_
  try go_wp2
  go_ret
  exact ⟨by first | rfl | (simp [errW_none, errW_some] <;> rfl) | (simp [*, errW_none, errW_some] <;> rfl), by repeat (first | (with_reducible first | exact HB.out | apply below_alloc | apply pw_below_drewN | apply below_drew1 | refine below_set ?_ GE332.out) | exact HB.out)⟩


def impl_isKind.f (l0 : List Int) (a1_0 : Int) (a1_1 : Int) (a1_2 : Int) : Option (Bool) := (impl_canGive.f l0 a1_0 a1_1 a1_2).bind fun t337 => (if t337 = true then (if 0 ≤ a1_0 then (if a1_0 < (l0.length : Int) then (if 0 ≤ a1_1 then (if a1_1 < (l0.length : Int) then (some (decide ((wrap64 ((rd l0 a1_0) - a1_2)) ≥ (wrap64 ((rd l0 a1_1) + a1_2))))) else (none)) else (none)) else (none)) else (none)) else (some false))
def impl_isKind.T1 : Bool × List (List Nat × List Nat) := (true, [([], []), ([], []), ([0, 1], [0, 1]), ([2, 2], [2]), ([3], [3]), ([3], [3]), ([5, 3], [3, 5]), ([4, 6, 3], [3, 4, 6]), ([7, 3], [3, 7]), ([3], [3]), ([9, 3], [3, 9]), ([8, 10, 3], [3, 8, 10]), ([3], [3]), ([3], [3]), ([13, 3], [3, 13]), ([12, 14, 3], [3, 12, 14]), ([15, 3], [3, 15]), ([3], [3]), ([17, 3], [3, 17]), ([16, 18, 3], [3, 16, 18]), ([11, 19, 3], [3, 11, 19]), ([3, 20], [3, 20]), ([21, 3, 0, 1, 2, 3, 4, 5, 6, 7, 8, 9, 10, 11, 12, 13, 14, 15, 16, 17, 18, 19, 20, 21], [21])])
def impl_isKind.B1 : List Nat := [0, 0, 3, 7, 15, 15, 47, 127, 255, 15, 527, 2047, 15, 15, 8207, 28687, 61455, 15, 131087, 520207, 1048575, 2097151, 4194303]
theorem impl_isKind.tab1 : rtab .any (opsOf Try.f134 1) = impl_isKind.T1 := by kernel_rfl
theorem impl_isKind.bits1 : waitsOk impl_isKind.T1.2 impl_isKind.B1 = true := by kernel_rfl
set_option maxHeartbeats 8000000 in
set_option maxRecDepth 100000 in
theorem impl_isKind.calls (A0 : Option Addr) (c0 : Nat) (l0 : List Int) (a1_0 : Int) (a1_1 : Int) (a1_2 : Int) (r : Bool) (w : World) (hr0 : Kd.C (Kd.int .i64) w A0 l0.length l0) (hc0 : l0.length ≤ c0) (h : impl_isKind.f l0 a1_0 a1_1 a1_2 = some r) :
  Calls Try.prog 134 #[.slice A0 l0.length c0, .agg #[.int .i64 a1_0, .int .i64 a1_1, .int .i64 a1_2]] w fun e w' => e = .returned (.bool r) ∧ Below w.heap.size w w' := by
 have hu52 := Try.underlying52
 have HR0 := Aside0.mk hr0
 have HC0 := Aside0.mk hc0
 clear hr0 hc0
 have HB := Aside0.mk (Below.refl w.heap.size w)
 have H : ((impl_canGive.f l0 a1_0 a1_1 a1_2).bind fun t337 => (if t337 = true then (if 0 ≤ a1_0 then (if a1_0 < (l0.length : Int) then (if 0 ≤ a1_1 then (if a1_1 < (l0.length : Int) then (some (decide ((wrap64 ((rd l0 a1_0) - a1_2)) ≥ (wrap64 ((rd l0 a1_1) + a1_2))))) else (none)) else (none)) else (none)) else (none)) else (some false))) = some r := h
 clear h
 replace H := Option.bind_eq_some_iff.mp H
 obtain ⟨t337, A30, H⟩ := H
 replace H : (if t337 = true then (if 0 ≤ a1_0 then (if a1_0 < (l0.length : Int) then (if 0 ≤ a1_1 then (if a1_1 < (l0.length : Int) then (some (decide ((wrap64 ((rd l0 a1_0) - a1_2)) ≥ (wrap64 ((rd l0 a1_1) + a1_2))))) else (none)) else (none)) else (none)) else (none)) else (some false)) = some r := H
 have A3 := Aside0.mk A30
 clear A30
 by_cases c4 : t337 = true
 ·subst c4
  have H1 : (if 0 ≤ a1_0 then (if a1_0 < (l0.length : Int) then (if 0 ≤ a1_1 then (if a1_1 < (l0.length : Int) then (some (decide ((wrap64 ((rd l0 a1_0) - a1_2)) ≥ (wrap64 ((rd l0 a1_1) + a1_2))))) else (none)) else (none)) else (none)) else (none)) = some r := by rw [if_pos rfl] at H; exact H
  clear H
  have H := H1
  clear H1
  by_cases c5 : 0 ≤ a1_0
  ·rw [if_pos c5] at H
   have c5b0 : decide (0 ≤ a1_0) = true := decide_eq_true c5
   clear c5
   by_cases c6 : a1_0 < (l0.length : Int)
   ·rw [if_pos c6] at H
    have c6b0 : decide (a1_0 < (l0.length : Int)) = true := decide_eq_true c6
    clear c6
    by_cases c7 : 0 ≤ a1_1
    ·rw [if_pos c7] at H
     have c7b0 : decide (0 ≤ a1_1) = true := decide_eq_true c7
     clear c7
     by_cases c8 : a1_1 < (l0.length : Int)
     ·rw [if_pos c8] at H
      have c8b0 : decide (a1_1 < (l0.length : Int)) = true := decide_eq_true c8
      clear c8
      obtain rfl := Option.some.inj H
      go_enter Try.func134, Try.ntmps134
      try go_wp2_with (first | ((with_reducible refine gate_dst (N := 3) rfl ?_); refine box_event ?hg (N := 3) ?hd (cs := #[.int .i64 a1_0, .int .i64 a1_1, .int .i64 a1_2]) (t := 52) ?hr ?_; (case hd => rfl); (case hg => rfl); (case hr => first | (go_simp; done) | (go_simp; rfl)); intro gb336 hg w9 hbox hb; have n0_ := Aside0.mk (below_step (by repeat (first | (with_reducible first | exact HB.out | apply below_alloc | apply pw_below_drewN | apply below_drew1) | exact HB.out)) hb); have n1_ := Aside0.mk (hbox); have n2_ := Aside0.mk ((by rw [hg]; exact (below_size (by repeat (first | (with_reducible first | exact HB.out | apply below_alloc | apply pw_below_drewN | apply below_drew1) | exact HB.out))) : w.heap.size ≤ gb336)); have n3_ := Aside0.mk ((by rw [hg]; exact (below_size (by repeat (first | (with_reducible first | exact HB.out | apply below_alloc | apply pw_below_drewN | apply below_drew1) | exact HB.out))) : w.heap.size ≤ gb336)); clear HB; have HB := n0_; have BK336 := n1_; have GW336 := n2_; have GE336 := n3_; clear n0_ n1_ n2_ n3_; clear hb hbox hg))
      have n0_ := Aside0.mk (blk_drew BK336.out)
      have n1_ := Aside0.mk (below_drew1 HB.out)
      clear BK336
      clear HB
      have BK336 := n0_
      have HB := n1_
      clear n0_ n1_
      have p338 : 0 ≤ (a1_0 : Int) := of_decide_eq_true (by first | (with_reducible assumption) | assumption)
      have q338 : a1_0 < (l0.length : Int) := of_decide_eq_true (by first | (with_reducible assumption) | assumption)
      obtain ⟨ad338, e338, hx338_0⟩ := Kd.at_int HR0.out a1_0 p338 q338
      have hw338_0 := hx338_0
      cases e338
      replace hx338_0 := (HB.out.cell (World.block_lt_of_cell? w _ hx338_0)).trans hx338_0
      replace p338 := eq_true p338
      replace q338 := eq_true q338
      have p339 : 0 ≤ (a1_1 : Int) := of_decide_eq_true (by first | (with_reducible assumption) | assumption)
      have q339 : a1_1 < (l0.length : Int) := of_decide_eq_true (by first | (with_reducible assumption) | assumption)
      obtain ⟨ad339, e339, hx339_0⟩ := Kd.at_int HR0.out a1_1 p339 q339
      have hw339_0 := hx339_0
      obtain rfl : ad338 = ad339 := (by injection e339)
      replace hx339_0 := (HB.out.cell (World.block_lt_of_cell? w _ hx339_0)).trans hx339_0
      replace p339 := eq_true p339
      replace q339 := eq_true q339
      refine start_ (n := 23) (S := fun w' => w'.cell? ⟨gb336, 0, none⟩ = some (.int .i64 a1_0) ∧ w'.cell? ⟨gb336, 1, none⟩ = some (.int .i64 a1_1) ∧ w'.cell? ⟨gb336, 2, none⟩ = some (.int .i64 a1_2) ∧ w'.cell? (ad338.add (a1_0).toNat) = some (.int .i64 (rd l0 a1_0)) ∧ w'.cell? (ad338.add (a1_1).toNat) = some (.int .i64 (rd l0 a1_1))) (ds := []) #[false, false, false, false, false, false, false, false, false, false, false, false, false, false, false, false, false, false, false, false, false, false, false] (by kernel_rfl) rfl rfl ⟨(blk_cell BK336.out 0).trans rfl, (blk_cell BK336.out 1).trans rfl, (blk_cell BK336.out 2).trans rfl, ((HB.out.cell (World.block_lt_of_cell? w _ hw338_0)).trans hw338_0), ((HB.out.cell (World.block_lt_of_cell? w _ hw339_0)).trans hw339_0)⟩ (fun hHeld => ?_); refine with_tabW impl_isKind.tab1 impl_isKind.bits1 (fun HT_ HW_ => ?_)
      generalize w9.drew = w10 at BK336 HB hx338_0 hx339_0 hHeld ⊢
      refine pure_ (i := 0) (N := some 5) (v := ?_) (a' := ?_) #[true, false, false, false, false, false, false, false, false, false, false, false, false, false, false, false, false, false, false, false, false, false, false] rfl rfl (any_of HT_.out (by kernel_rfl)) (fun _ _ _ h => h) (Or.inl ⟨by rfl, ?_⟩) ?_ ?_
      rotate_left
      ·intro w'
       go_simp
       with_reducible rfl
      rotate_left
      ·simp only [Act.put, List.setIfInBounds_toArray, List.set_cons_zero, List.set_cons_succ, i64_w, i32_w]
       rfl
      refine take_ (i := 1) (N := some 6) (v := ?_) (a' := ?_) #[true, true, false, false, false, false, false, false, false, false, false, false, false, false, false, false, false, false, false, false, false, false, false] rfl rfl (take_ofW HT_.out HW_.out (by kernel_rfl)) (fun _ _ _ h => h) (Or.inl ⟨by rfl, ?_⟩) hHeld ?_ ?_
      rotate_left
      ·rintro w' ⟨s0, s1, s2, s3, s4⟩
       go_simp
       with_reducible rfl
      rotate_left
      ·simp only [Act.put, List.setIfInBounds_toArray, List.set_cons_zero, List.set_cons_succ, i64_w, i32_w]
       rfl
      refine one_ (i := 2) (N := some 7) #[true, true, true, false, false, false, false, false, false, false, false, false, false, false, false, false, false, false, false, false, false, false, false] rfl rfl (one_of HT_.out (by kernel_rfl)) (by decide) (fun K hK => ?_)
      refine goes_ Try.func149 (by kernel_rfl) rfl #[.slice _ l0.length c0, .agg #[.int .i64 a1_0, .int .i64 a1_1, .int .i64 a1_2]] (by rfl) rfl rfl (by (try simp only [List.map_toArray, List.map_cons, List.map_nil]); first | done | rfl | (simp only [List.length_drop, List.length_take]; rfl)) ?_
      with_reducible refine (impl_canGive.calls _ _ l0 a1_0 a1_1 a1_2 true _ ?side1 ?side2 A3.out).mono ?_
      (case side1 => repeat (first | exact (Kd.C_below HR0.out HB.out) | (with_reducible refine Kd.C_alloc ?_ _) | (with_reducible refine Kd.C_drewN ?_ _) | (with_reducible refine Kd.C_drew ?_)))
      (case side2 => exact HC0.out)
      rintro e w11 ⟨rfl, hb⟩
      refine ⟨_, rfl, ?_⟩
      have n0_ := Aside0.mk (blk_below (g := gb336) (o := .cells #[.int .i64 a1_0, .int .i64 a1_1, .int .i64 a1_2] 52 (0, 0)) (by (with_reducible repeat (first | refine blk_drewN ?_ _ | refine blk_drew ?_ | refine blk_alloc ?_ _)); exact BK336.out) hb)
      have n1_ := Aside0.mk (below_step (by repeat (first | (with_reducible first | exact HB.out | apply below_alloc | apply pw_below_drewN | apply below_drew1 | refine below_set ?_ GE336.out) | exact HB.out)) hb)
      clear BK336
      clear HB
      have BK336 := n0_
      have HB := n1_
      clear n0_ n1_
      (try clear hb)
      (try clear hb2)
      (try clear hk)
      (try clear hi)
      refine hK.out _ _ ⟨(blk_cell BK336.out 0).trans rfl, (blk_cell BK336.out 1).trans rfl, (blk_cell BK336.out 2).trans rfl, ((HB.out.cell (World.block_lt_of_cell? w _ hw338_0)).trans hw338_0), ((HB.out.cell (World.block_lt_of_cell? w _ hw339_0)).trans hw339_0)⟩ (fun hHeld => ?_)
      clear hK K
      refine norm_ (a' := ?_) ?_ ?_
      rotate_left
      ·show Act.put _ (some 7) _ = _
       simp only [Act.put, List.setIfInBounds_toArray, List.set_cons_zero, List.set_cons_succ, i64_w, i32_w]
       rfl
      refine pure_ (i := 3) (N := some 8) (v := ?_) (a' := ?_) #[true, true, true, true, false, false, false, false, false, false, false, false, false, false, false, false, false, false, false, false, false, false, false] rfl rfl (any_of HT_.out (by kernel_rfl)) (fun _ _ _ h => h) (Or.inl ⟨by rfl, ?_⟩) ?_ ?_
      rotate_left
      ·intro w'
       go_simp
       with_reducible rfl
      rotate_left
      ·simp only [Act.put, List.setIfInBounds_toArray, List.set_cons_zero, List.set_cons_succ, i64_w, i32_w]
       rfl
      refine pure_ (i := 4) (N := some 9) (v := ?_) (a' := ?_) #[true, true, true, true, true, false, false, false, false, false, false, false, false, false, false, false, false, false, false, false, false, false, false] rfl rfl (any_of HT_.out (by kernel_rfl)) (fun _ _ _ h => h) (Or.inl ⟨by rfl, ?_⟩) ?_ ?_
      rotate_left
      ·intro w'
       go_simp
       with_reducible rfl
      rotate_left
      ·simp only [Act.put, List.setIfInBounds_toArray, List.set_cons_zero, List.set_cons_succ, i64_w, i32_w]
       rfl
      refine pure_ (i := 5) (N := some 10) (v := ?_) (a' := ?_) #[true, true, true, true, true, true, false, false, false, false, false, false, false, false, false, false, false, false, false, false, false, false, false] rfl rfl (any_of HT_.out (by kernel_rfl)) (fun _ _ _ h => h) (Or.inl ⟨by rfl, ?_⟩) ?_ ?_
      rotate_left
      ·intro w'
       go_simp
       with_reducible rfl
      rotate_left
      ·simp only [Act.put, List.setIfInBounds_toArray, List.set_cons_zero, List.set_cons_succ, i64_w, i32_w]
       rfl
      refine pure_ (i := 9) (N := some 14) (v := ?_) (a' := ?_) #[true, true, true, true, true, true, false, false, false, true, false, false, false, false, false, false, false, false, false, false, false, false, false] rfl rfl (any_of HT_.out (by kernel_rfl)) (fun _ _ _ h => h) (Or.inl ⟨by rfl, ?_⟩) ?_ ?_
      rotate_left
      ·intro w'
       go_simp
       with_reducible rfl
      rotate_left
      ·simp only [Act.put, List.setIfInBounds_toArray, List.set_cons_zero, List.set_cons_succ, i64_w, i32_w]
       rfl
      refine pure_ (i := 12) (N := some 17) (v := ?_) (a' := ?_) #[true, true, true, true, true, true, false, false, false, true, false, false, true, false, false, false, false, false, false, false, false, false, false] rfl rfl (any_of HT_.out (by kernel_rfl)) (fun _ _ _ h => h) (Or.inl ⟨by rfl, ?_⟩) ?_ ?_
      rotate_left
      ·intro w'
       go_simp
       with_reducible rfl
      rotate_left
      ·simp only [Act.put, List.setIfInBounds_toArray, List.set_cons_zero, List.set_cons_succ, i64_w, i32_w]
       rfl
      refine pure_ (i := 13) (N := some 18) (v := ?_) (a' := ?_) #[true, true, true, true, true, true, false, false, false, true, false, false, true, true, false, false, false, false, false, false, false, false, false] rfl rfl (any_of HT_.out (by kernel_rfl)) (fun _ _ _ h => h) (Or.inl ⟨by rfl, ?_⟩) ?_ ?_
      rotate_left
      ·intro w'
       go_simp
       with_reducible rfl
      rotate_left
      ·simp only [Act.put, List.setIfInBounds_toArray, List.set_cons_zero, List.set_cons_succ, i64_w, i32_w]
       rfl
      refine pure_ (i := 17) (N := some 22) (v := ?_) (a' := ?_) #[true, true, true, true, true, true, false, false, false, true, false, false, true, true, false, false, false, true, false, false, false, false, false] rfl rfl (any_of HT_.out (by kernel_rfl)) (fun _ _ _ h => h) (Or.inl ⟨by rfl, ?_⟩) ?_ ?_
      rotate_left
      ·intro w'
       go_simp
       with_reducible rfl
      rotate_left
      ·simp only [Act.put, List.setIfInBounds_toArray, List.set_cons_zero, List.set_cons_succ, i64_w, i32_w]
       rfl
      refine take_ (i := 6) (N := some 11) (v := ?_) (a' := ?_) #[true, true, true, true, true, true, true, false, false, true, false, false, true, true, false, false, false, true, false, false, false, false, false] rfl rfl (take_ofW HT_.out HW_.out (by kernel_rfl)) (fun _ _ _ h => h) (Or.inl ⟨by rfl, ?_⟩) hHeld ?_ ?_
      rotate_left
      ·rintro w' ⟨s0, s1, s2, s3, s4⟩
       go_simp
       with_reducible rfl
      rotate_left
      ·simp only [Act.put, List.setIfInBounds_toArray, List.set_cons_zero, List.set_cons_succ, i64_w, i32_w]
       rfl
      refine pure_ (i := 7) (N := some 12) (v := ?_) (a' := ?_) #[true, true, true, true, true, true, true, true, false, true, false, false, true, true, false, false, false, true, false, false, false, false, false] rfl rfl (any_of HT_.out (by kernel_rfl)) (fun _ _ _ h => h) (Or.inl ⟨by rfl, ?_⟩) ?_ ?_
      rotate_left
      ·intro w'
       go_simp
       with_reducible rfl
      rotate_left
      ·simp only [Act.put, List.setIfInBounds_toArray, List.set_cons_zero, List.set_cons_succ, i64_w, i32_w]
       rfl
      refine take_ (i := 8) (N := some 13) (v := ?_) (a' := ?_) #[true, true, true, true, true, true, true, true, true, true, false, false, true, true, false, false, false, true, false, false, false, false, false] rfl rfl (take_ofW HT_.out HW_.out (by kernel_rfl)) (fun _ _ _ h => h) (Or.inl ⟨by rfl, ?_⟩) hHeld ?_ ?_
      rotate_left
      ·rintro w' ⟨s0, s1, s2, s3, s4⟩
       go_simp
       with_reducible rfl
      rotate_left
      ·simp only [Act.put, List.setIfInBounds_toArray, List.set_cons_zero, List.set_cons_succ, i64_w, i32_w]
       rfl
      refine take_ (i := 10) (N := some 15) (v := ?_) (a' := ?_) #[true, true, true, true, true, true, true, true, true, true, true, false, true, true, false, false, false, true, false, false, false, false, false] rfl rfl (take_ofW HT_.out HW_.out (by kernel_rfl)) (fun _ _ _ h => h) (Or.inl ⟨by rfl, ?_⟩) hHeld ?_ ?_
      rotate_left
      ·rintro w' ⟨s0, s1, s2, s3, s4⟩
       go_simp
       with_reducible rfl
      rotate_left
      ·simp only [Act.put, List.setIfInBounds_toArray, List.set_cons_zero, List.set_cons_succ, i64_w, i32_w]
       rfl
      refine pure_ (i := 11) (N := some 16) (v := ?_) (a' := ?_) #[true, true, true, true, true, true, true, true, true, true, true, true, true, true, false, false, false, true, false, false, false, false, false] rfl rfl (any_of HT_.out (by kernel_rfl)) (fun _ _ _ h => h) (Or.inl ⟨by rfl, ?_⟩) ?_ ?_
      rotate_left
      ·intro w'
       go_simp
       with_reducible rfl
      rotate_left
      ·simp only [Act.put, List.setIfInBounds_toArray, List.set_cons_zero, List.set_cons_succ, i64_w, i32_w]
       rfl
      refine take_ (i := 14) (N := some 19) (v := ?_) (a' := ?_) #[true, true, true, true, true, true, true, true, true, true, true, true, true, true, true, false, false, true, false, false, false, false, false] rfl rfl (take_ofW HT_.out HW_.out (by kernel_rfl)) (fun _ _ _ h => h) (Or.inl ⟨by rfl, ?_⟩) hHeld ?_ ?_
      rotate_left
      ·rintro w' ⟨s0, s1, s2, s3, s4⟩
       go_simp
       with_reducible rfl
      rotate_left
      ·simp only [Act.put, List.setIfInBounds_toArray, List.set_cons_zero, List.set_cons_succ, i64_w, i32_w]
       rfl
      refine pure_ (i := 15) (N := some 20) (v := ?_) (a' := ?_) #[true, true, true, true, true, true, true, true, true, true, true, true, true, true, true, true, false, true, false, false, false, false, false] rfl rfl (any_of HT_.out (by kernel_rfl)) (fun _ _ _ h => h) (Or.inl ⟨by rfl, ?_⟩) ?_ ?_
      rotate_left
      ·intro w'
       go_simp
       with_reducible rfl
      rotate_left
      ·simp only [Act.put, List.setIfInBounds_toArray, List.set_cons_zero, List.set_cons_succ, i64_w, i32_w]
       rfl
      refine take_ (i := 16) (N := some 21) (v := ?_) (a' := ?_) #[true, true, true, true, true, true, true, true, true, true, true, true, true, true, true, true, true, true, false, false, false, false, false] rfl rfl (take_ofW HT_.out HW_.out (by kernel_rfl)) (fun _ _ _ h => h) (Or.inl ⟨by rfl, ?_⟩) hHeld ?_ ?_
      rotate_left
      ·rintro w' ⟨s0, s1, s2, s3, s4⟩
       go_simp
       with_reducible rfl
      rotate_left
      ·simp only [Act.put, List.setIfInBounds_toArray, List.set_cons_zero, List.set_cons_succ, i64_w, i32_w]
       rfl
      refine take_ (i := 18) (N := some 23) (v := ?_) (a' := ?_) #[true, true, true, true, true, true, true, true, true, true, true, true, true, true, true, true, true, true, true, false, false, false, false] rfl rfl (take_ofW HT_.out HW_.out (by kernel_rfl)) (fun _ _ _ h => h) (Or.inl ⟨by rfl, ?_⟩) hHeld ?_ ?_
      rotate_left
      ·rintro w' ⟨s0, s1, s2, s3, s4⟩
       go_simp
       with_reducible rfl
      rotate_left
      ·simp only [Act.put, List.setIfInBounds_toArray, List.set_cons_zero, List.set_cons_succ, i64_w, i32_w]
       rfl
      refine pure_ (i := 19) (N := some 24) (v := ?_) (a' := ?_) #[true, true, true, true, true, true, true, true, true, true, true, true, true, true, true, true, true, true, true, true, false, false, false] rfl rfl (any_of HT_.out (by kernel_rfl)) (fun _ _ _ h => h) (Or.inl ⟨by rfl, ?_⟩) ?_ ?_
      rotate_left
      ·intro w'
       go_simp
       with_reducible rfl
      rotate_left
      ·simp only [Act.put, List.setIfInBounds_toArray, List.set_cons_zero, List.set_cons_succ, i64_w, i32_w]
       rfl
      refine pure_ (i := 20) (N := some 25) (v := ?_) (a' := ?_) #[true, true, true, true, true, true, true, true, true, true, true, true, true, true, true, true, true, true, true, true, true, false, false] rfl rfl (any_of HT_.out (by kernel_rfl)) (fun _ _ _ h => h) (Or.inl ⟨by rfl, ?_⟩) ?_ ?_
      rotate_left
      ·intro w'
       go_simp
       with_reducible rfl
      rotate_left
      ·simp only [Act.put, List.setIfInBounds_toArray, List.set_cons_zero, List.set_cons_succ, i64_w, i32_w]
       rfl
      refine pure_ (i := 21) (N := some 26) (v := ?_) (a' := ?_) #[true, true, true, true, true, true, true, true, true, true, true, true, true, true, true, true, true, true, true, true, true, true, false] rfl rfl (any_of HT_.out (by kernel_rfl)) (fun _ _ _ h => h) (Or.inl ⟨by rfl, ?_⟩) ?_ ?_
      rotate_left
      ·intro w'
       go_simp
       with_reducible rfl
      rotate_left
      ·simp only [Act.put, List.setIfInBounds_toArray, List.set_cons_zero, List.set_cons_succ, i64_w, i32_w]
       rfl
      refine pure_ (i := 22) (N := some 4) (v := ?_) (a' := ?_) #[true, true, true, true, true, true, true, true, true, true, true, true, true, true, true, true, true, true, true, true, true, true, true] rfl rfl (any_of HT_.out (by kernel_rfl)) (fun _ _ _ h => h) (Or.inl ⟨by rfl, ?_⟩) ?_ ?_
      rotate_left
      ·intro w'
       go_simp
       with_reducible rfl
      rotate_left
      ·simp only [Act.put, List.setIfInBounds_toArray, List.set_cons_zero, List.set_cons_succ, i64_w, i32_w]
       rfl
      refine done_ (done_of HT_.out (by kernel_rfl)) ?_
      try go_wp2
      go_ret
      exact ⟨by first | rfl | (simp [errW_none, errW_some] <;> rfl) | (simp [*, errW_none, errW_some] <;> rfl), by repeat (first | (with_reducible first | exact HB.out | apply below_alloc | apply pw_below_drewN | apply below_drew1 | refine below_set ?_ GE336.out) | exact HB.out)⟩
     ·rw [if_neg c8] at H
      exact absurd H (by simp)
    ·rw [if_neg c7] at H
     exact absurd H (by simp)
   ·rw [if_neg c6] at H
    exact absurd H (by simp)
  ·rw [if_neg c5] at H
   exact absurd H (by simp)
 ·replace c4 := Bool.eq_false_iff.mpr c4
  subst c4
  have H1 : (some false) = some r := by rw [if_neg (show ¬ (false = true) by decide)] at H; exact H
  clear H
  have H := H1
  clear H1
  obtain rfl := Option.some.inj H
  go_enter Try.func134, Try.ntmps134
  try go_wp2_with (first | ((with_reducible refine gate_dst (N := 3) rfl ?_); refine box_event ?hg (N := 3) ?hd (cs := #[.int .i64 a1_0, .int .i64 a1_1, .int .i64 a1_2]) (t := 52) ?hr ?_; (case hd => rfl); (case hg => rfl); (case hr => first | (go_simp; done) | (go_simp; rfl)); intro gb336 hg w12 hbox hb; have n0_ := Aside0.mk (below_step (by repeat (first | (with_reducible first | exact HB.out | apply below_alloc | apply pw_below_drewN | apply below_drew1) | exact HB.out)) hb); have n1_ := Aside0.mk (hbox); have n2_ := Aside0.mk ((by rw [hg]; exact (below_size (by repeat (first | (with_reducible first | exact HB.out | apply below_alloc | apply pw_below_drewN | apply below_drew1) | exact HB.out))) : w.heap.size ≤ gb336)); have n3_ := Aside0.mk ((by rw [hg]; exact (below_size (by repeat (first | (with_reducible first | exact HB.out | apply below_alloc | apply pw_below_drewN | apply below_drew1) | exact HB.out))) : w.heap.size ≤ gb336)); clear HB; have HB := n0_; have BK336 := n1_; have GW336 := n2_; have GE336 := n3_; clear n0_ n1_ n2_ n3_; clear hb hbox hg))
  have n0_ := Aside0.mk (blk_drew BK336.out)
  have n1_ := Aside0.mk (below_drew1 HB.out)
  clear BK336
  clear HB
  have BK336 := n0_
  have HB := n1_
  clear n0_ n1_
  refine start_ (n := 23) (S := fun w' => w'.cell? ⟨gb336, 0, none⟩ = some (.int .i64 a1_0) ∧ w'.cell? ⟨gb336, 1, none⟩ = some (.int .i64 a1_1) ∧ w'.cell? ⟨gb336, 2, none⟩ = some (.int .i64 a1_2)) (ds := []) #[false, false, false, false, false, false, false, false, false, false, false, false, false, false, false, false, false, false, false, false, false, false, false] (by kernel_rfl) rfl rfl ⟨(blk_cell BK336.out 0).trans rfl, (blk_cell BK336.out 1).trans rfl, (blk_cell BK336.out 2).trans rfl⟩ (fun hHeld => ?_); refine with_tabW impl_isKind.tab1 impl_isKind.bits1 (fun HT_ HW_ => ?_)
  generalize w12.drew = w13 at BK336 HB hHeld ⊢
  refine pure_ (i := 0) (N := some 5) (v := ?_) (a' := ?_) #[true, false, false, false, false, false, false, false, false, false, false, false, false, false, false, false, false, false, false, false, false, false, false] rfl rfl (any_of HT_.out (by kernel_rfl)) (fun _ _ _ h => h) (Or.inl ⟨by rfl, ?_⟩) ?_ ?_
  rotate_left
  ·intro w'
   go_simp
   with_reducible rfl
  rotate_left
  ·simp only [Act.put, List.setIfInBounds_toArray, List.set_cons_zero, List.set_cons_succ, i64_w, i32_w]
   rfl
  refine take_ (i := 1) (N := some 6) (v := ?_) (a' := ?_) #[true, true, false, false, false, false, false, false, false, false, false, false, false, false, false, false, false, false, false, false, false, false, false] rfl rfl (take_ofW HT_.out HW_.out (by kernel_rfl)) (fun _ _ _ h => h) (Or.inl ⟨by rfl, ?_⟩) hHeld ?_ ?_
  rotate_left
  ·rintro w' ⟨s0, s1, s2⟩
   go_simp
   with_reducible rfl
  rotate_left
  ·simp only [Act.put, List.setIfInBounds_toArray, List.set_cons_zero, List.set_cons_succ, i64_w, i32_w]
   rfl
  refine one_ (i := 2) (N := some 7) #[true, true, true, false, false, false, false, false, false, false, false, false, false, false, false, false, false, false, false, false, false, false, false] rfl rfl (one_of HT_.out (by kernel_rfl)) (by decide) (fun K hK => ?_)
  refine goes_ Try.func149 (by kernel_rfl) rfl #[.slice _ l0.length c0, .agg #[.int .i64 a1_0, .int .i64 a1_1, .int .i64 a1_2]] (by rfl) rfl rfl (by (try simp only [List.map_toArray, List.map_cons, List.map_nil]); first | done | rfl | (simp only [List.length_drop, List.length_take]; rfl)) ?_
  with_reducible refine (impl_canGive.calls _ _ l0 a1_0 a1_1 a1_2 false _ ?side1 ?side2 A3.out).mono ?_
  (case side1 => repeat (first | exact (Kd.C_below HR0.out HB.out) | (with_reducible refine Kd.C_alloc ?_ _) | (with_reducible refine Kd.C_drewN ?_ _) | (with_reducible refine Kd.C_drew ?_)))
  (case side2 => exact HC0.out)
  rintro e w14 ⟨rfl, hb⟩
  refine ⟨_, rfl, ?_⟩
  have n0_ := Aside0.mk (blk_below (g := gb336) (o := .cells #[.int .i64 a1_0, .int .i64 a1_1, .int .i64 a1_2] 52 (0, 0)) (by (with_reducible repeat (first | refine blk_drewN ?_ _ | refine blk_drew ?_ | refine blk_alloc ?_ _)); exact BK336.out) hb)
  have n1_ := Aside0.mk (below_step (by repeat (first | (with_reducible first | exact HB.out | apply below_alloc | apply pw_below_drewN | apply below_drew1 | refine below_set ?_ GE336.out) | exact HB.out)) hb)
  clear BK336
  clear HB
  have BK336 := n0_
  have HB := n1_
  clear n0_ n1_
  (try clear hb)
  (try clear hb2)
  (try clear hk)
  (try clear hi)
  refine hK.out _ _ ⟨(blk_cell BK336.out 0).trans rfl, (blk_cell BK336.out 1).trans rfl, (blk_cell BK336.out 2).trans rfl⟩ (fun hHeld => ?_)
  clear hK K
  refine norm_ (a' := ?_) ?_ ?_
  rotate_left
  ·show Act.put _ (some 7) _ = _
   simp only [Act.put, List.setIfInBounds_toArray, List.set_cons_zero, List.set_cons_succ, i64_w, i32_w]
   rfl
  refine pure_ (i := 3) (N := some 8) (v := ?_) (a' := ?_) #[true, true, true, true, false, false, false, false, false, false, false, false, false, false, false, false, false, false, false, false, false, false, false] rfl rfl (any_of HT_.out (by kernel_rfl)) (fun _ _ _ h => h) (Or.inl ⟨by rfl, ?_⟩) ?_ ?_
  rotate_left
  ·intro w'
   go_simp
   with_reducible rfl
  rotate_left
  ·simp only [Act.put, List.setIfInBounds_toArray, List.set_cons_zero, List.set_cons_succ, i64_w, i32_w]
   rfl
  refine pure_ (i := 4) (N := some 9) (v := undef) (a' := ?_) #[true, true, true, true, true, false, false, false, false, false, false, false, false, false, false, false, false, false, false, false, false, false, false] rfl rfl (any_of HT_.out (by kernel_rfl)) (fun _ _ _ h => h) (Or.inr ⟨by rfl, rfl⟩) ?_ ?_
  rotate_left
  ·simp only [Act.put, List.setIfInBounds_toArray, List.set_cons_zero, List.set_cons_succ, i64_w, i32_w]
   rfl
  refine pure_ (i := 5) (N := some 10) (v := undef) (a' := ?_) #[true, true, true, true, true, true, false, false, false, false, false, false, false, false, false, false, false, false, false, false, false, false, false] rfl rfl (any_of HT_.out (by kernel_rfl)) (fun _ _ _ h => h) (Or.inr ⟨by rfl, rfl⟩) ?_ ?_
  rotate_left
  ·simp only [Act.put, List.setIfInBounds_toArray, List.set_cons_zero, List.set_cons_succ, i64_w, i32_w]
   rfl
  refine pure_ (i := 6) (N := some 11) (v := undef) (a' := ?_) #[true, true, true, true, true, true, true, false, false, false, false, false, false, false, false, false, false, false, false, false, false, false, false] rfl rfl (any_of HT_.out (by kernel_rfl)) (fun _ _ _ h => h) (Or.inr ⟨by rfl, rfl⟩) ?_ ?_
  rotate_left
  ·simp only [Act.put, List.setIfInBounds_toArray, List.set_cons_zero, List.set_cons_succ, i64_w, i32_w]
   rfl
  refine pure_ (i := 7) (N := some 12) (v := undef) (a' := ?_) #[true, true, true, true, true, true, true, true, false, false, false, false, false, false, false, false, false, false, false, false, false, false, false] rfl rfl (any_of HT_.out (by kernel_rfl)) (fun _ _ _ h => h) (Or.inr ⟨by rfl, rfl⟩) ?_ ?_
  rotate_left
  ·simp only [Act.put, List.setIfInBounds_toArray, List.set_cons_zero, List.set_cons_succ, i64_w, i32_w]
   rfl
  refine pure_ (i := 8) (N := some 13) (v := undef) (a' := ?_) #[true, true, true, true, true, true, true, true, true, false, false, false, false, false, false, false, false, false, false, false, false, false, false] rfl rfl (any_of HT_.out (by kernel_rfl)) (fun _ _ _ h => h) (Or.inr ⟨by rfl, rfl⟩) ?_ ?_
  rotate_left
  ·simp only [Act.put, List.setIfInBounds_toArray, List.set_cons_zero, List.set_cons_succ, i64_w, i32_w]
   rfl
  refine pure_ (i := 9) (N := some 14) (v := undef) (a' := ?_) #[true, true, true, true, true, true, true, true, true, true, false, false, false, false, false, false, false, false, false, false, false, false, false] rfl rfl (any_of HT_.out (by kernel_rfl)) (fun _ _ _ h => h) (Or.inr ⟨by rfl, rfl⟩) ?_ ?_
  rotate_left
  ·simp only [Act.put, List.setIfInBounds_toArray, List.set_cons_zero, List.set_cons_succ, i64_w, i32_w]
   rfl
  refine pure_ (i := 10) (N := some 15) (v := undef) (a' := ?_) #[true, true, true, true, true, true, true, true, true, true, true, false, false, false, false, false, false, false, false, false, false, false, false] rfl rfl (any_of HT_.out (by kernel_rfl)) (fun _ _ _ h => h) (Or.inr ⟨by rfl, rfl⟩) ?_ ?_
  rotate_left
  ·simp only [Act.put, List.setIfInBounds_toArray, List.set_cons_zero, List.set_cons_succ, i64_w, i32_w]
   rfl
  refine pure_ (i := 11) (N := some 16) (v := undef) (a' := ?_) #[true, true, true, true, true, true, true, true, true, true, true, true, false, false, false, false, false, false, false, false, false, false, false] rfl rfl (any_of HT_.out (by kernel_rfl)) (fun _ _ _ h => h) (Or.inr ⟨by rfl, rfl⟩) ?_ ?_
  rotate_left
  ·simp only [Act.put, List.setIfInBounds_toArray, List.set_cons_zero, List.set_cons_succ, i64_w, i32_w]
   rfl
  refine pure_ (i := 12) (N := some 17) (v := undef) (a' := ?_) #[true, true, true, true, true, true, true, true, true, true, true, true, true, false, false, false, false, false, false, false, false, false, false] rfl rfl (any_of HT_.out (by kernel_rfl)) (fun _ _ _ h => h) (Or.inr ⟨by rfl, rfl⟩) ?_ ?_
  rotate_left
  ·simp only [Act.put, List.setIfInBounds_toArray, List.set_cons_zero, List.set_cons_succ, i64_w, i32_w]
   rfl
  refine pure_ (i := 13) (N := some 18) (v := undef) (a' := ?_) #[true, true, true, true, true, true, true, true, true, true, true, true, true, true, false, false, false, false, false, false, false, false, false] rfl rfl (any_of HT_.out (by kernel_rfl)) (fun _ _ _ h => h) (Or.inr ⟨by rfl, rfl⟩) ?_ ?_
  rotate_left
  ·simp only [Act.put, List.setIfInBounds_toArray, List.set_cons_zero, List.set_cons_succ, i64_w, i32_w]
   rfl
  refine pure_ (i := 14) (N := some 19) (v := undef) (a' := ?_) #[true, true, true, true, true, true, true, true, true, true, true, true, true, true, true, false, false, false, false, false, false, false, false] rfl rfl (any_of HT_.out (by kernel_rfl)) (fun _ _ _ h => h) (Or.inr ⟨by rfl, rfl⟩) ?_ ?_
  rotate_left
  ·simp only [Act.put, List.setIfInBounds_toArray, List.set_cons_zero, List.set_cons_succ, i64_w, i32_w]
   rfl
  refine pure_ (i := 15) (N := some 20) (v := undef) (a' := ?_) #[true, true, true, true, true, true, true, true, true, true, true, true, true, true, true, true, false, false, false, false, false, false, false] rfl rfl (any_of HT_.out (by kernel_rfl)) (fun _ _ _ h => h) (Or.inr ⟨by rfl, rfl⟩) ?_ ?_
  rotate_left
  ·simp only [Act.put, List.setIfInBounds_toArray, List.set_cons_zero, List.set_cons_succ, i64_w, i32_w]
   rfl
  refine pure_ (i := 16) (N := some 21) (v := undef) (a' := ?_) #[true, true, true, true, true, true, true, true, true, true, true, true, true, true, true, true, true, false, false, false, false, false, false] rfl rfl (any_of HT_.out (by kernel_rfl)) (fun _ _ _ h => h) (Or.inr ⟨by rfl, rfl⟩) ?_ ?_
  rotate_left
  ·simp only [Act.put, List.setIfInBounds_toArray, List.set_cons_zero, List.set_cons_succ, i64_w, i32_w]
   rfl
  refine pure_ (i := 17) (N := some 22) (v := undef) (a' := ?_) #[true, true, true, true, true, true, true, true, true, true, true, true, true, true, true, true, true, true, false, false, false, false, false] rfl rfl (any_of HT_.out (by kernel_rfl)) (fun _ _ _ h => h) (Or.inr ⟨by rfl, rfl⟩) ?_ ?_
  rotate_left
  ·simp only [Act.put, List.setIfInBounds_toArray, List.set_cons_zero, List.set_cons_succ, i64_w, i32_w]
   rfl
  refine pure_ (i := 18) (N := some 23) (v := undef) (a' := ?_) #[true, true, true, true, true, true, true, true, true, true, true, true, true, true, true, true, true, true, true, false, false, false, false] rfl rfl (any_of HT_.out (by kernel_rfl)) (fun _ _ _ h => h) (Or.inr ⟨by rfl, rfl⟩) ?_ ?_
  rotate_left
  ·simp only [Act.put, List.setIfInBounds_toArray, List.set_cons_zero, List.set_cons_succ, i64_w, i32_w]
   rfl
  refine pure_ (i := 19) (N := some 24) (v := undef) (a' := ?_) #[true, true, true, true, true, true, true, true, true, true, true, true, true, true, true, true, true, true, true, true, false, false, false] rfl rfl (any_of HT_.out (by kernel_rfl)) (fun _ _ _ h => h) (Or.inr ⟨by rfl, rfl⟩) ?_ ?_
  rotate_left
  ·simp only [Act.put, List.setIfInBounds_toArray, List.set_cons_zero, List.set_cons_succ, i64_w, i32_w]
   rfl
  refine pure_ (i := 20) (N := some 25) (v := undef) (a' := ?_) #[true, true, true, true, true, true, true, true, true, true, true, true, true, true, true, true, true, true, true, true, true, false, false] rfl rfl (any_of HT_.out (by kernel_rfl)) (fun _ _ _ h => h) (Or.inr ⟨by rfl, rfl⟩) ?_ ?_
  rotate_left
  ·simp only [Act.put, List.setIfInBounds_toArray, List.set_cons_zero, List.set_cons_succ, i64_w, i32_w]
   rfl
  refine pure_ (i := 21) (N := some 26) (v := ?_) (a' := ?_) #[true, true, true, true, true, true, true, true, true, true, true, true, true, true, true, true, true, true, true, true, true, true, false] rfl rfl (any_of HT_.out (by kernel_rfl)) (fun _ _ _ h => h) (Or.inl ⟨by rfl, ?_⟩) ?_ ?_
  rotate_left
  ·intro w'
   go_simp
   with_reducible rfl
  rotate_left
  ·simp only [Act.put, List.setIfInBounds_toArray, List.set_cons_zero, List.set_cons_succ, i64_w, i32_w]
   rfl
  refine pure_ (i := 22) (N := some 4) (v := ?_) (a' := ?_) #[true, true, true, true, true, true, true, true, true, true, true, true, true, true, true, true, true, true, true, true, true, true, true] rfl rfl (any_of HT_.out (by kernel_rfl)) (fun _ _ _ h => h) (Or.inl ⟨by rfl, ?_⟩) ?_ ?_
  rotate_left
  ·intro w'
   go_simp
   with_reducible rfl
  rotate_left
  ·simp only [Act.put, List.setIfInBounds_toArray, List.set_cons_zero, List.set_cons_succ, i64_w, i32_w]
   rfl
  refine done_ (done_of HT_.out (by kernel_rfl)) ?_
  try go_wp2
  go_ret
  exact ⟨by first | rfl | (simp [errW_none, errW_some] <;> rfl) | (simp [*, errW_none, errW_some] <;> rfl), by repeat (first | (with_reducible first | exact HB.out | apply below_alloc | apply pw_below_drewN | apply below_drew1 | refine below_set ?_ GE336.out) | exact HB.out)⟩


def impl_allWithin.l0 : Nat → Int → Int → List Int → Int → Int → Option (Bool)
 | 0, _, _, _, _, _ => none
 | k + 1, x1, x2, x9, x10, x11 => if x11 < x10 then (if 0 ≤ x11 then (if x11 < (x9.length : Int) then ((impl_within.f (rd x9 x11) x1 x2).bind fun t208 => (if t208 = true then (impl_allWithin.l0 k x1 x2 x9 x10 (wrap64 (x11 + 1))) else (some false))) else (none)) else (none)) else (some true)
def impl_allWithin.f (k : Nat) (l0 : List Int) (a1 : Int) (a2 : Int) : Option (Bool) := impl_allWithin.l0 k a1 a2 l0 (l0.length : Int) 0
theorem impl_allWithin.mono_l : ∀ k, (∀ y0 y1 y2 y3 y4, LeO (impl_allWithin.l0 k y0 y1 y2 y3 y4) (impl_allWithin.l0 (k + 1) y0 y1 y2 y3 y4))
 | 0 => fun _ _ _ _ _ r h => by simp [impl_allWithin.l0] at h
 | k + 1 => by
  have ih0 := impl_allWithin.mono_l k
  ·intro y0 y1 y2 y3 y4
   unfold impl_allWithin.l0
   repeat' first
   | (with_reducible exact ih0 _ _ _ _ _)
   | (with_reducible exact LeO.refl _)
   | (with_reducible exact LeO.none _)
   | (with_reducible refine LeO.ite ?_ ?_)
   | (with_reducible refine LeO.bind ?_ (fun _ => ?_))
   | exact ih0 _ _ _ _ _
   | exact LeO.none _
   | refine LeO.ite ?_ ?_
   | refine LeO.bind ?_ (fun _ => ?_)
theorem impl_allWithin.mono : ∀ a0 a1 a2 k, LeO (impl_allWithin.f k a0 a1 a2) (impl_allWithin.f (k + 1) a0 a1 a2) := by
 intro a0 a1 a2 k
 have ih0 := impl_allWithin.mono_l k
 unfold impl_allWithin.f
 repeat' first
   | (with_reducible exact ih0 _ _ _ _ _)
   | (with_reducible exact LeO.refl _)
   | (with_reducible exact LeO.none _)
   | (with_reducible refine LeO.ite ?_ ?_)
   | (with_reducible refine LeO.bind ?_ (fun _ => ?_))
   | exact ih0 _ _ _ _ _
   | exact LeO.none _
   | refine LeO.ite ?_ ?_
   | refine LeO.bind ?_ (fun _ => ?_)
set_option maxHeartbeats 8000000 in
set_option maxRecDepth 100000 in
theorem impl_allWithin.calls (k : Nat) (A0 : Option Addr) (c0 : Nat) (l0 : List Int) (a1 : Int) (a2 : Int) (r : Bool) (w : World) (hr0 : Kd.C (Kd.int .i64) w A0 l0.length l0) (hc0 : l0.length ≤ c0) (h : impl_allWithin.f k l0 a1 a2 = some r) :
  Calls Try.prog 174 #[.slice A0 l0.length c0, .int .i64 a1, .int .i64 a2] w fun e w' => e = .returned (.bool r) ∧ Drawn0 w w' := by
 have HR0 := Aside0.mk hr0
 have HC0 := Aside0.mk hc0
 clear hr0 hc0
 have H : (impl_allWithin.l0 k a1 a2 l0 (l0.length : Int) 0) = some r := h
 clear h
 have H' := Aside0.mk H
 clear H
 go_enter Try.func174, Try.ntmps174
 go_wp2
 go_loopg [11] k (fun kq v11 w' => ∃ (x11_1 : Int), v11 = .int .i64 x11_1 ∧ Aside0 (impl_allWithin.l0 kq a1 a2 l0 (l0.length : Int) x11_1 = some r) ∧ Aside0 (kq ≤ k) ∧ Drawn0 w w')
 case atStart => exact ⟨(0), (by first | rfl | (simp; done) | (simp [*]; done)), H', ⟨Nat.le_refl _⟩, by repeat (first | exact Drawn0.refl _ | apply Drawn0.step)⟩
 case round =>
  clear H'
  try clear c1
  try clear p2
  obtain ⟨x11_1, rfl, HA, HK1, ⟨m1, rfl⟩⟩ := hrel
  cases gk with
  | zero => exact absurd HA.out (by simp [impl_allWithin.l0])
  | succ k1 =>
   have H := HA.out
   clear HA
   simp only [impl_allWithin.l0] at H
   by_cases c4 : x11_1 < (l0.length : Int)
   ·rw [if_pos c4] at H
    have c4b0 : decide (x11_1 < (l0.length : Int)) = true := decide_eq_true c4
    clear c4
    by_cases c5 : 0 ≤ x11_1
    ·rw [if_pos c5] at H
     have c5b0 : decide (0 ≤ x11_1) = true := decide_eq_true c5
     clear c5
     by_cases c6 : x11_1 < (l0.length : Int)
     ·rw [if_pos c6] at H
      have c6b0 : decide (x11_1 < (l0.length : Int)) = true := decide_eq_true c6
      clear c6
      replace H := Option.bind_eq_some_iff.mp H
      obtain ⟨t208, A70, H⟩ := H
      replace H : (if t208 = true then (impl_allWithin.l0 k1 a1 a2 l0 (l0.length : Int) (wrap64 (x11_1 + 1))) else (some false)) = some r := H
      have A7 := Aside0.mk A70
      clear A70
      by_cases c8 : t208 = true
      ·subst c8
       have H1 : (impl_allWithin.l0 k1 a1 a2 l0 (l0.length : Int) (wrap64 (x11_1 + 1))) = some r := by rw [if_pos rfl] at H; exact H
       clear H
       have H := H1
       clear H1
       have H' := Aside0.mk H
       clear H
       have p207 : 0 ≤ (x11_1 : Int) := of_decide_eq_true (by first | (with_reducible assumption) | assumption)
       have q207 : x11_1 < (l0.length : Int) := of_decide_eq_true (by first | (with_reducible assumption) | assumption)
       obtain ⟨ad207, e207, hx207_0⟩ := Kd.at_int HR0.out x11_1 p207 q207
       cases e207
       replace p207 := eq_true p207
       replace q207 := eq_true q207
       go_wp2_with (first | ((with_reducible refine gate_callee (f := 173) rfl ?_); refine goesL_ (some 18) rfl rfl Try.func173 (by kernel_rfl) rfl #[.int .i64 (rd l0 x11_1), .int .i64 a1, .int .i64 a2] rfl (by (try simp only [List.map_toArray, List.map_cons, List.map_nil]); first | done | rfl | (simp only [List.length_drop, List.length_take]; rfl)) ?_; (with_reducible refine (impl_within.calls (rd l0 x11_1) a1 a2 true _ A7.out).mono ?_); rintro e w' ⟨rfl, ⟨nd, rfl⟩⟩; refine ⟨_, rfl, ?_⟩))
       go_roundg k1
       case measure => have := HK1.out; omega
       case rel => exact ⟨(wrap64 (x11_1 + 1)), (by first | rfl | (simp; done) | (simp [*]; done)), H', ⟨by have := HK1.out; omega⟩, by repeat (first | exact Drawn0.refl _ | apply Drawn0.step)⟩
      ·replace c8 := Bool.eq_false_iff.mpr c8
       subst c8
       have H1 : (some false) = some r := by rw [if_neg (show ¬ (false = true) by decide)] at H; exact H
       clear H
       have H := H1
       clear H1
       obtain rfl := Option.some.inj H
       have p207 : 0 ≤ (x11_1 : Int) := of_decide_eq_true (by first | (with_reducible assumption) | assumption)
       have q207 : x11_1 < (l0.length : Int) := of_decide_eq_true (by first | (with_reducible assumption) | assumption)
       obtain ⟨ad207, e207, hx207_0⟩ := Kd.at_int HR0.out x11_1 p207 q207
       cases e207
       replace p207 := eq_true p207
       replace q207 := eq_true q207
       go_wp2_with (first | ((with_reducible refine gate_callee (f := 173) rfl ?_); refine goesL_ (some 18) rfl rfl Try.func173 (by kernel_rfl) rfl #[.int .i64 (rd l0 x11_1), .int .i64 a1, .int .i64 a2] rfl (by (try simp only [List.map_toArray, List.map_cons, List.map_nil]); first | done | rfl | (simp only [List.length_drop, List.length_take]; rfl)) ?_; (with_reducible refine (impl_within.calls (rd l0 x11_1) a1 a2 false _ A7.out).mono ?_); rintro e w' ⟨rfl, ⟨nd, rfl⟩⟩; refine ⟨_, rfl, ?_⟩))
       go_ret
       exact ⟨by first | rfl | (simp; done) | (simp [*]; done), by repeat (first | exact Drawn0.refl _ | apply Drawn0.step)⟩
     ·rw [if_neg c6] at H
      exact absurd H (by simp)
    ·rw [if_neg c5] at H
     exact absurd H (by simp)
   ·rw [if_neg c4] at H
    have c4b0 : decide (x11_1 < (l0.length : Int)) = false := decide_eq_false c4
    clear c4
    obtain rfl := Option.some.inj H
    go_wp2
    go_ret
    exact ⟨by first | rfl | (simp; done) | (simp [*]; done), by repeat (first | exact Drawn0.refl _ | apply Drawn0.step)⟩


def impl_arePowers.f (k : Nat) (l0 : List Int) : Option (Bool) := (impl_within.f (l0.length : Int) 1 4).bind fun t510 => (if t510 = true then ((impl_allWithin.f k l0 0 4).bind fun t511 => (some t511)) else (some false))
theorem impl_arePowers.mono : ∀ a0 k, LeO (impl_arePowers.f k a0) (impl_arePowers.f (k + 1) a0) := by
 intro a0 k
 unfold impl_arePowers.f
 repeat' first
   | (with_reducible exact impl_allWithin.mono _ _ _ _)
   | (with_reducible exact LeO.refl _)
   | (with_reducible exact LeO.none _)
   | (with_reducible refine LeO.ite ?_ ?_)
   | (with_reducible refine LeO.bind ?_ (fun _ => ?_))
   | exact impl_allWithin.mono _ _ _ _
   | exact LeO.none _
   | refine LeO.ite ?_ ?_
   | refine LeO.bind ?_ (fun _ => ?_)
set_option maxHeartbeats 8000000 in
set_option maxRecDepth 100000 in
theorem impl_arePowers.calls (k : Nat) (A0 : Option Addr) (c0 : Nat) (l0 : List Int) (r : Bool) (w : World) (hr0 : Kd.C (Kd.int .i64) w A0 l0.length l0) (hc0 : l0.length ≤ c0) (h : impl_arePowers.f k l0 = some r) :
  Calls Try.prog 132 #[.slice A0 l0.length c0] w fun e w' => e = .returned (.bool r) ∧ Drawn0 w w' := by
 have HR0 := Aside0.mk hr0
 have HC0 := Aside0.mk hc0
 clear hr0 hc0
 have H : ((impl_within.f (l0.length : Int) 1 4).bind fun t510 => (if t510 = true then ((impl_allWithin.f k l0 0 4).bind fun t511 => (some t511)) else (some false))) = some r := h
 clear h
 replace H := Option.bind_eq_some_iff.mp H
 obtain ⟨t510, A20, H⟩ := H
 replace H : (if t510 = true then ((impl_allWithin.f k l0 0 4).bind fun t511 => (some t511)) else (some false)) = some r := H
 have A2 := Aside0.mk A20
 clear A20
 by_cases c3 : t510 = true
 ·subst c3
  have H1 : ((impl_allWithin.f k l0 0 4).bind fun t511 => (some t511)) = some r := by rw [if_pos rfl] at H; exact H
  clear H
  have H := H1
  clear H1
  replace H := Option.bind_eq_some_iff.mp H
  obtain ⟨t511, A40, H⟩ := H
  replace H : (some t511) = some r := H
  have A4 := Aside0.mk A40
  clear A40
  obtain rfl := Option.some.inj H
  go_enter Try.func132, Try.ntmps132
  go_wp2_with (first | ((with_reducible refine gate_callee (f := 173) rfl ?_); refine goesL_ (some 5) rfl rfl Try.func173 (by kernel_rfl) rfl #[.int .i64 (l0.length : Int), .int .i64 1, .int .i64 4] rfl (by (try simp only [List.map_toArray, List.map_cons, List.map_nil]); first | done | rfl | (simp only [List.length_drop, List.length_take]; rfl)) ?_; (with_reducible refine (impl_within.calls (l0.length : Int) 1 4 true _ A2.out).mono ?_); rintro e w' ⟨rfl, ⟨nd, rfl⟩⟩; refine ⟨_, rfl, ?_⟩) | (go_at_call 174; (with_reducible refine (impl_allWithin.calls k _ _ l0 0 4 t511 _ ?side1 ?side2 A4.out).mono ?_); (case side1 => repeat (first | exact HR0.out | (with_reducible refine Kd.C_alloc ?_ _) | (with_reducible refine Kd.C_drewN ?_ _) | (with_reducible refine Kd.C_drew ?_))); (case side2 => exact HC0.out); rintro e w' ⟨rfl, ⟨nd, rfl⟩⟩))
  go_ret
  exact ⟨by first | rfl | (simp; done) | (simp [*]; done), by repeat (first | exact Drawn0.refl _ | apply Drawn0.step)⟩
 ·replace c3 := Bool.eq_false_iff.mpr c3
  subst c3
  have H1 : (some false) = some r := by rw [if_neg (show ¬ (false = true) by decide)] at H; exact H
  clear H
  have H := H1
  clear H1
  obtain rfl := Option.some.inj H
  go_enter Try.func132, Try.ntmps132
  go_wp2_with (first | ((with_reducible refine gate_callee (f := 173) rfl ?_); refine goesL_ (some 5) rfl rfl Try.func173 (by kernel_rfl) rfl #[.int .i64 (l0.length : Int), .int .i64 1, .int .i64 4] rfl (by (try simp only [List.map_toArray, List.map_cons, List.map_nil]); first | done | rfl | (simp only [List.length_drop, List.length_take]; rfl)) ?_; (with_reducible refine (impl_within.calls (l0.length : Int) 1 4 false _ A2.out).mono ?_); rintro e w' ⟨rfl, ⟨nd, rfl⟩⟩; refine ⟨_, rfl, ?_⟩))
  go_ret
  exact ⟨by first | rfl | (simp; done) | (simp [*]; done), by repeat (first | exact Drawn0.refl _ | apply Drawn0.step)⟩


def impl_areArguments.f (k : Nat) (l0 : List Int) : Option (Bool) := (impl_within.f (l0.length : Int) 1 4).bind fun t512 => (if t512 = true then ((impl_allWithin.f k l0 1 9).bind fun t513 => (some t513)) else (some false))
theorem impl_areArguments.mono : ∀ a0 k, LeO (impl_areArguments.f k a0) (impl_areArguments.f (k + 1) a0) := by
 intro a0 k
 unfold impl_areArguments.f
 repeat' first
   | (with_reducible exact impl_allWithin.mono _ _ _ _)
   | (with_reducible exact LeO.refl _)
   | (with_reducible exact LeO.none _)
   | (with_reducible refine LeO.ite ?_ ?_)
   | (with_reducible refine LeO.bind ?_ (fun _ => ?_))
   | exact impl_allWithin.mono _ _ _ _
   | exact LeO.none _
   | refine LeO.ite ?_ ?_
   | refine LeO.bind ?_ (fun _ => ?_)
set_option maxHeartbeats 8000000 in
set_option maxRecDepth 100000 in
theorem impl_areArguments.calls (k : Nat) (A0 : Option Addr) (c0 : Nat) (l0 : List Int) (r : Bool) (w : World) (hr0 : Kd.C (Kd.int .i64) w A0 l0.length l0) (hc0 : l0.length ≤ c0) (h : impl_areArguments.f k l0 = some r) :
  Calls Try.prog 133 #[.slice A0 l0.length c0] w fun e w' => e = .returned (.bool r) ∧ Drawn0 w w' := by
 have HR0 := Aside0.mk hr0
 have HC0 := Aside0.mk hc0
 clear hr0 hc0
 have H : ((impl_within.f (l0.length : Int) 1 4).bind fun t512 => (if t512 = true then ((impl_allWithin.f k l0 1 9).bind fun t513 => (some t513)) else (some false))) = some r := h
 clear h
 replace H := Option.bind_eq_some_iff.mp H
 obtain ⟨t512, A20, H⟩ := H
 replace H : (if t512 = true then ((impl_allWithin.f k l0 1 9).bind fun t513 => (some t513)) else (some false)) = some r := H
 have A2 := Aside0.mk A20
 clear A20
 by_cases c3 : t512 = true
 ·subst c3
  have H1 : ((impl_allWithin.f k l0 1 9).bind fun t513 => (some t513)) = some r := by rw [if_pos rfl] at H; exact H
  clear H
  have H := H1
  clear H1
  replace H := Option.bind_eq_some_iff.mp H
  obtain ⟨t513, A40, H⟩ := H
  replace H : (some t513) = some r := H
  have A4 := Aside0.mk A40
  clear A40
  obtain rfl := Option.some.inj H
  go_enter Try.func133, Try.ntmps133
  go_wp2_with (first | ((with_reducible refine gate_callee (f := 173) rfl ?_); refine goesL_ (some 5) rfl rfl Try.func173 (by kernel_rfl) rfl #[.int .i64 (l0.length : Int), .int .i64 1, .int .i64 4] rfl (by (try simp only [List.map_toArray, List.map_cons, List.map_nil]); first | done | rfl | (simp only [List.length_drop, List.length_take]; rfl)) ?_; (with_reducible refine (impl_within.calls (l0.length : Int) 1 4 true _ A2.out).mono ?_); rintro e w' ⟨rfl, ⟨nd, rfl⟩⟩; refine ⟨_, rfl, ?_⟩) | (go_at_call 174; (with_reducible refine (impl_allWithin.calls k _ _ l0 1 9 t513 _ ?side1 ?side2 A4.out).mono ?_); (case side1 => repeat (first | exact HR0.out | (with_reducible refine Kd.C_alloc ?_ _) | (with_reducible refine Kd.C_drewN ?_ _) | (with_reducible refine Kd.C_drew ?_))); (case side2 => exact HC0.out); rintro e w' ⟨rfl, ⟨nd, rfl⟩⟩))
  go_ret
  exact ⟨by first | rfl | (simp; done) | (simp [*]; done), by repeat (first | exact Drawn0.refl _ | apply Drawn0.step)⟩
 ·replace c3 := Bool.eq_false_iff.mpr c3
  subst c3
  have H1 : (some false) = some r := by rw [if_neg (show ¬ (false = true) by decide)] at H; exact H
  clear H
  have H := H1
  clear H1
  obtain rfl := Option.some.inj H
  go_enter Try.func133, Try.ntmps133
  go_wp2_with (first | ((with_reducible refine gate_callee (f := 173) rfl ?_); refine goesL_ (some 5) rfl rfl Try.func173 (by kernel_rfl) rfl #[.int .i64 (l0.length : Int), .int .i64 1, .int .i64 4] rfl (by (try simp only [List.map_toArray, List.map_cons, List.map_nil]); first | done | rfl | (simp only [List.length_drop, List.length_take]; rfl)) ?_; (with_reducible refine (impl_within.calls (l0.length : Int) 1 4 false _ A2.out).mono ?_); rintro e w' ⟨rfl, ⟨nd, rfl⟩⟩; refine ⟨_, rfl, ?_⟩))
  go_ret
  exact ⟨by first | rfl | (simp; done) | (simp [*]; done), by repeat (first | exact Drawn0.refl _ | apply Drawn0.step)⟩

theorem ev_succ {α : Type} {g : Nat → Option α} {r : α} (h : Ev (fun k => g (k + 1)) r) : Ev g r := Ev.step (fun _ => rfl) h
theorem ev_some {α : Type} (g : Option α) {r : α} (h : g = some r) : Ev (fun _ => g) r := ⟨0, fun _ _ => h⟩
theorem ev_now {α : Type} (r r' : α) (h : r = r') : Ev (fun _ => some r) r' := ⟨0, fun _ _ => by rw [h]⟩
theorem wrap64_id {x : Int} (h0 : -9223372036854775808 ≤ x) (h1 : x ≤ 9223372036854775807) : wrap64 x = x := by unfold wrap64; omega
theorem wrap64_nat_succ {i : Nat} (h : i < 9223372036854775807) : wrap64 ((i : Int) + 1) = ((i + 1 : Nat) : Int) := by unfold wrap64; omega
theorem rd_nat (l : List Int) (i : Nat) (h : i < l.length) : rd l (i : Int) = l[i] := by unfold rd; simp [h]
theorem rdL_nat (l : List (List Int)) (i : Nat) (h : i < l.length) : rd_L2 l (i : Int) = l[i] := by unfold rd_L2; simp [h]
theorem rd_nat_getD (l : List Int) (i : Nat) : rd l (i : Int) = l.getD i 0 := by unfold rd; simp
theorem rdL_nat_getD (l : List (List Int)) (i : Nat) : rd_L2 l (i : Int) = l.getD i [] := by unfold rd_L2; simp

def laws_markIntS.l0 : Nat → List Int → Int → Int → Option (Int × List Int)
 | 0, _, _, _ => none
 | k + 1, x0, x1, x5 => if x5 < (x0.length : Int) then (if 0 ≤ x5 then (laws_markIntS.l0 k (x0.set (x5 : Int).toNat x1) (wrap64 (x1 + 1)) (wrap64 (x5 + 1))) else (none)) else (some (x1, x0))
def laws_markIntS.f (k : Nat) (l0 : List Int) (a1 : Int) : Option (Int × List Int) := laws_markIntS.l0 k l0 a1 0
theorem laws_markIntS.mono_l : ∀ k, (∀ y0 y1 y2, LeO (laws_markIntS.l0 k y0 y1 y2) (laws_markIntS.l0 (k + 1) y0 y1 y2))
 | 0 => fun _ _ _ r h => by simp [laws_markIntS.l0] at h
 | k + 1 => by
  have ih0 := laws_markIntS.mono_l k
  ·intro y0 y1 y2
   unfold laws_markIntS.l0
   repeat' first
   | (with_reducible exact ih0 _ _ _)
   | (with_reducible exact LeO.refl _)
   | (with_reducible exact LeO.none _)
   | (with_reducible refine LeO.ite ?_ ?_)
   | (with_reducible refine LeO.bind ?_ (fun _ => ?_))
   | exact ih0 _ _ _
   | exact LeO.none _
   | refine LeO.ite ?_ ?_
   | refine LeO.bind ?_ (fun _ => ?_)
theorem laws_markIntS.mono : ∀ a0 a1 k, LeO (laws_markIntS.f k a0 a1) (laws_markIntS.f (k + 1) a0 a1) := by
 intro a0 a1 k
 have ih0 := laws_markIntS.mono_l k
 unfold laws_markIntS.f
 repeat' first
   | (with_reducible exact ih0 _ _ _)
   | (with_reducible exact LeO.refl _)
   | (with_reducible exact LeO.none _)
   | (with_reducible refine LeO.ite ?_ ?_)
   | (with_reducible refine LeO.bind ?_ (fun _ => ?_))
   | exact ih0 _ _ _
   | exact LeO.none _
   | refine LeO.ite ?_ ?_
   | refine LeO.bind ?_ (fun _ => ?_)
set_option maxHeartbeats 8000000 in
set_option maxRecDepth 100000 in
theorem laws_markIntS.calls (k : Nat) (P0_ : Nat → Prop) (u9000_ : Value) (l0 : List Int) (a1 : Int) (r1 : Int) (r2 : List Int) (w0 w : World) (hB : Below w0.heap.size w0 w) (ho0 : Kd.R (Kd.int .i64) 3 w w0.heap.size P0_ u9000_ l0) (h : laws_markIntS.f k l0 a1 = some (r1, r2)) :
  Calls Try.prog 46 #[u9000_, .int .i64 a1] w fun e w' => e = .returned (.int .i64 r1) ∧ Kd.R (Kd.int .i64) 3 w' w0.heap.size (fun k_ => (P0_ k_ ∨ w.heap.size ≤ k_)) u9000_ r2 ∧ Below w0.heap.size w0 w' ∧ Kept w w' (fun k_ => P0_ k_) := by
 have HO0 := Aside0.mk (show Kd.R (Kd.int .i64) 3 w w0.heap.size (fun k_ => (P0_ k_ ∨ w.heap.size ≤ k_)) u9000_ l0 from Kd.R_mono ho0 (fun k_ hk => (.inl hk)))
 have HK := Aside0.mk (Kept.refl w (fun k_ => P0_ k_))
 have HW0 := Aside0.mk hB.size
 have HB := Aside0.mk hB
 clear hB
 have H : (laws_markIntS.l0 k l0 a1 0) = some (r1, r2) := h
 clear h
 have H' := Aside0.mk H
 clear H
 go_enter Try.func46, Try.ntmps46
 go_wp2
 go_loopg [1, 5] k (fun kq v1 v5 w' => ∃ (x0_1 : List Int) (x1_1 : Int) (x5_1 : Int), v1 = .int .i64 x1_1 ∧ v5 = .int .i64 x5_1 ∧ Aside0 (laws_markIntS.l0 kq x0_1 x1_1 x5_1 = some (r1, r2)) ∧ Aside0 (kq ≤ k) ∧ Aside0 (Kd.R (Kd.int .i64) 3 w' w0.heap.size (fun k_ => (P0_ k_ ∨ w.heap.size ≤ k_)) u9000_ x0_1) ∧ Aside0 (Kept w w' (fun k_ => P0_ k_)) ∧ Aside0 (Below w0.heap.size w0 w'))
 case atStart => exact ⟨(l0), (a1), (0), (by first | rfl | (simp; done) | (simp [*]; done)), (by first | rfl | (simp; done) | (simp [*]; done)), H', ⟨Nat.le_refl _⟩, ⟨by (with_reducible repeat (first | apply Kd.R_alloc | apply Kd.R_drewN | apply Kd.R_drew)); exact HO0.out⟩, ⟨by repeat (first | (with_reducible first | exact HK.out | apply Kept.alloc | apply Kept.drewN | apply Kept.drew) | exact HK.out)⟩, ⟨by repeat (first | (with_reducible first | exact HB.out | apply below_alloc | apply pw_below_drewN | apply below_drew1) | exact HB.out)⟩⟩
 case round =>
  clear H'
  try clear p2
  obtain ⟨x0_1, x1_1, x5_1, rfl, rfl, HA, HK1, HO_0, HK, HB⟩ := hrel
  cases gk with
  | zero => exact absurd HA.out (by simp [laws_markIntS.l0])
  | succ k1 =>
   have H := HA.out
   clear HA
   simp only [laws_markIntS.l0] at H
   by_cases c3 : x5_1 < (x0_1.length : Int)
   ·rw [if_pos c3] at H
    have c3b0 : decide (x5_1 < (x0_1.length : Int)) = true := decide_eq_true c3
    clear c3
    by_cases c4 : 0 ≤ x5_1
    ·rw [if_pos c4] at H
     have c4b0 : decide (0 ≤ x5_1) = true := decide_eq_true c4
     clear c4
     obtain ⟨y430, hy430⟩ : ∃ y_ : List Int, y_ = (x0_1.set (x5_1 : Int).toNat x1_1) := ⟨_, rfl⟩
     replace H : (laws_markIntS.l0 k1 y430 (wrap64 (x1_1 + 1)) (wrap64 (x5_1 + 1))) = some (r1, r2) := by first | (rw [hy430]; with_reducible exact H) | (have H2_ := (Option.bind_some _ _).symm.trans H; rw [hy430]; with_reducible exact H2_) | (have H2_ := (Option.bind_some _ _).symm.trans H; with_reducible exact H2_) | with_reducible exact H | (rw [hy430]; exact H) | exact H
     have Ny430 := Aside0.mk hy430
     clear hy430
     have H' := Aside0.mk H
     clear H
     obtain ⟨Ao6, co6, eo6⟩ := Kd.R_slice HO_0.out
     subst eo6
     have p5 : 0 ≤ (x5_1 : Int) := of_decide_eq_true (by first | (with_reducible assumption) | assumption)
     have q5 : (x5_1 : Int) < ((x0_1.length : Int) : Int) := of_decide_eq_true (by first | (with_reducible assumption) | assumption)
     obtain ⟨go5, co5, eo5, gb5, gl5, cl5, HG5⟩ := Kd.R_form HO_0.out (by omega)
     (first | cases eo5 | (injection eo5 with ea_ en_ ec_; (first | subst ea_ | (injection ea_ with ea_; subst ea_)); subst ec_; clear en_))
     have GB5 := Aside0.mk gb5
     have GG5 := Aside0.mk HG5
     clear gb5 gl5 HG5
     have HMgo5 := Aside0.mk (show (P0_ go5 ∨ w.heap.size ≤ go5) from (HO_0.out.1 _ rfl))
     obtain ⟨hx5_0, hf5_0⟩ := Kd.R_celln 0 HO_0.out (x5_1 : Int) p5 q5
     replace p5 := eq_true p5
     replace q5 := eq_true q5
     have HP7 := Kd.R_putg HO_0.out (x5_1 : Int) x1_1
     go_wp2_with (first | ((with_reducible refine gate_store (t := 3) (p := 15) rfl ?_); refine store_event (t := 3) (p := 15) (v := ?vo_w8) (w1 := (wr.setCell ⟨go5, (x5_1 : Int).toNat, none⟩ (.int .i64 x1_1))) ?hg ?ho ?hn ?hr ?_; (case ho => rfl); (case hg => rfl); (case hn => rfl); (case hr => first | (go_simp; done) | (go_simp; rfl)); intro w8 hw; have hg : wr.grownBy w8 (some go5) := (by rw [hw]; exact HP7.2); have hp_ : Kd.R (Kd.int .i64) 3 w8 w0.heap.size (fun k_ => (P0_ k_ ∨ w.heap.size ≤ k_)) (.slice (some ⟨go5, 0, none⟩) x0_1.length co6) y430 := (by rw [hw, Ny430.out]; exact HP7.1); clear HP7; have n0_ := Aside0.mk (hp_); have n1_ := Aside0.mk ((by rw [hw]; exact below_set (HB.out) GB5.out : Below w0.heap.size w0 w8)); have n2_ := Aside0.mk (Kept.of_grown (S := (fun k_ => P0_ k_)) hg (by repeat (first | (with_reducible first | exact HK.out | apply Kept.alloc | apply Kept.drewN | apply Kept.drew) | exact HK.out)) (fun k_ e_ => (HO_0.out.1 k_ e_))); clear HO_0; clear HB; clear HK; have HO_0 := n0_; have HB := n1_; have HK := n2_; clear n0_ n1_ n2_; clear hg hw hp_))
     go_roundg k1
     case measure => have := HK1.out; omega
     case rel => exact ⟨(y430), (wrap64 (x1_1 + 1)), (wrap64 (x5_1 + 1)), (by first | rfl | (simp; done) | (simp [*]; done)), (by first | rfl | (simp; done) | (simp [*]; done)), H', ⟨by have := HK1.out; omega⟩, ⟨by (with_reducible repeat (first | apply Kd.R_alloc | apply Kd.R_drewN | apply Kd.R_drew)); exact HO_0.out⟩, ⟨by repeat (first | (with_reducible first | exact HK.out | apply Kept.alloc | apply Kept.drewN | apply Kept.drew) | exact HK.out)⟩, ⟨by repeat (first | (with_reducible first | exact HB.out | apply below_alloc | apply pw_below_drewN | apply below_drew1) | exact HB.out)⟩⟩
    ·rw [if_neg c4] at H
     exact absurd H (by simp)
   ·rw [if_neg c3] at H
    have c3b0 : decide (x5_1 < (x0_1.length : Int)) = false := decide_eq_false c3
    clear c3
    simp only [Option.some.injEq, Prod.mk.injEq] at H
    obtain ⟨rfl, rfl⟩ := H
    obtain ⟨Ao9, co9, eo9⟩ := Kd.R_slice HO_0.out
    subst eo9
    go_wp2
    go_ret
    exact ⟨by first | rfl | (simp [errW_none, errW_some] <;> rfl) | (simp [*, errW_none, errW_some] <;> rfl), by (with_reducible repeat (first | apply Kd.R_alloc | apply Kd.R_drewN | apply Kd.R_drew)); exact HO_0.out, by repeat (first | (with_reducible first | exact HB.out | apply below_alloc | apply pw_below_drewN | apply below_drew1) | exact HB.out), by repeat (first | (with_reducible first | exact HK.out | apply Kept.alloc | apply Kept.drewN | apply Kept.drew) | exact HK.out)⟩


def laws_markIntSS.row (k : Int) (n : Nat) : List Int := (List.range n).map fun (i : Nat) => k + (i : Int)
def laws_markIntSS.rows : Int → List (List Int) → List (List Int)
 | _, [] => []
 | k, r :: t => laws_markIntSS.row k r.length :: laws_markIntSS.rows (k + (r.length : Int)) t
def laws_markIntSS.tot : List (List Int) → Nat
 | [] => 0
 | r :: t => r.length + laws_markIntSS.tot t
theorem laws_markIntSS.row_length (k : Int) (n : Nat) : (laws_markIntSS.row k n).length = n := by simp [laws_markIntSS.row]
/-- markIntS, from place i on. -/
theorem laws_markIntSS.marks (l : List Int) (a : Int) (h0 : 0 ≤ a) (hl : a + (l.length : Int) ≤ 4611686018427387904) : ∀ d k (i : Nat), i ≤ l.length → l.length - i = d → d < k →
  laws_markIntS.l0 k (laws_markIntSS.row a i ++ l.drop i) (a + (i : Int)) (i : Int) = some (a + (l.length : Int), laws_markIntSS.row a l.length) := by
 intro d
 induction d with
 | zero =>
  intro k i hi hd hk
  obtain ⟨k, rfl⟩ : ∃ m, k = m + 1 := ⟨k - 1, by omega⟩
  have : i = l.length := by omega
  subst this
  simp only [laws_markIntS.l0]
  rw [if_neg (by simp [laws_markIntSS.row_length])]
  simp
 | succ d ih =>
  intro k i hi hd hk
  obtain ⟨k, rfl⟩ : ∃ m, k = m + 1 := ⟨k - 1, by omega⟩
  have hlt : i < l.length := by omega
  simp only [laws_markIntS.l0]
  rw [if_pos (by simp [laws_markIntSS.row_length]; omega), if_pos (by omega)]
  have hw : wrap64 ((i : Int) + 1) = ((i + 1 : Nat) : Int) := by unfold wrap64; omega
  have hw2 : wrap64 (a + (i : Int) + 1) = a + ((i + 1 : Nat) : Int) := by unfold wrap64; omega
  have hs : (laws_markIntSS.row a i ++ l.drop i).set (i : Int).toNat (a + (i : Int)) = laws_markIntSS.row a (i + 1) ++ l.drop (i + 1) := by
   rw [Int.toNat_natCast, List.set_append_right _ _ (by rw [laws_markIntSS.row_length]; omega), laws_markIntSS.row_length, Nat.sub_self, List.drop_eq_getElem_cons hlt, List.set_cons_zero]
   unfold laws_markIntSS.row
   rw [List.range_succ, List.map_append, List.append_assoc]
   rfl
  rw [hw, hw2, hs]
  exact ih k (i + 1) (by omega) (by omega) (by omega)
theorem laws_markIntSS.mark (l : List Int) (a : Int) (h0 : 0 ≤ a) (hl : a + (l.length : Int) ≤ 4611686018427387904) :
  laws_markIntS.f (l.length + 1) l a = some (a + (l.length : Int), laws_markIntSS.row a l.length) := by
 have h := laws_markIntSS.marks l a h0 hl l.length (l.length + 1) 0 (by omega) (by omega) (by omega)
 simpa [laws_markIntS.f, laws_markIntSS.row] using h
theorem laws_markIntSS.tot_append (a b : List (List Int)) : laws_markIntSS.tot (a ++ b) = laws_markIntSS.tot a + laws_markIntSS.tot b := by
 induction a with
 | nil => simp [laws_markIntSS.tot]
 | cons r t ih => simp [laws_markIntSS.tot, ih]; omega
theorem laws_markIntSS.rows_append (a b : List (List Int)) : ∀ k, laws_markIntSS.rows k (a ++ b) = laws_markIntSS.rows k a ++ laws_markIntSS.rows (k + (laws_markIntSS.tot a : Int)) b := by
 induction a with
 | nil => intro k; simp [laws_markIntSS.rows, laws_markIntSS.tot]
 | cons r t ih =>
  intro k
  simp only [List.cons_append, laws_markIntSS.rows, laws_markIntSS.tot]
  rw [ih]
  congr 3
  push_cast
  omega
theorem laws_markIntSS.rows_length : ∀ (l : List (List Int)) k, (laws_markIntSS.rows k l).length = l.length
 | [], _ => rfl
 | _ :: t, _ => by simp [laws_markIntSS.rows, laws_markIntSS.rows_length t]
/-- What stands in memory behind i rounds. -/
def laws_markIntSS.upto (a : Int) (l : List (List Int)) (i : Nat) : List (List Int) := laws_markIntSS.rows a (l.take i) ++ l.drop i
theorem laws_markIntSS.upto_length (a : Int) (l : List (List Int)) (i : Nat) : (laws_markIntSS.upto a l i).length = l.length := by
 simp [laws_markIntSS.upto, laws_markIntSS.rows_length]; omega
theorem laws_markIntSS.upto_at (a : Int) (l : List (List Int)) (i : Nat) (h : i < l.length) : (laws_markIntSS.upto a l i).getD i [] = l[i] := by
 have hl : (laws_markIntSS.rows a (l.take i)).length = i := by rw [laws_markIntSS.rows_length, List.length_take]; omega
 rw [List.getD_eq_getElem?_getD, laws_markIntSS.upto, List.getElem?_append_right (by omega), hl, Nat.sub_self, List.getElem?_drop]
 simp [h]
theorem laws_markIntSS.upto_set (a : Int) (l : List (List Int)) (i : Nat) (h : i < l.length) : (laws_markIntSS.upto a l i).set i (laws_markIntSS.row (a + (laws_markIntSS.tot (l.take i) : Int)) l[i].length) = laws_markIntSS.upto a l (i + 1) := by
 have hl : (laws_markIntSS.rows a (l.take i)).length = i := by rw [laws_markIntSS.rows_length, List.length_take]; omega
 rw [laws_markIntSS.upto, List.set_append_right _ _ (by omega), hl, Nat.sub_self, List.drop_eq_getElem_cons h, List.set_cons_zero, laws_markIntSS.upto, List.take_succ_eq_append_getElem h, laws_markIntSS.rows_append, List.append_assoc]
 rfl
theorem laws_markIntSS.tot_take (l : List (List Int)) (i : Nat) (h : i < l.length) : laws_markIntSS.tot (l.take (i + 1)) = laws_markIntSS.tot (l.take i) + l[i].length := by
 rw [List.take_succ_eq_append_getElem h, laws_markIntSS.tot_append]; simp [laws_markIntSS.tot]
theorem laws_markIntSS.tot_le (l : List (List Int)) (i : Nat) : laws_markIntSS.tot (l.take i) ≤ laws_markIntSS.tot l := by
 have := laws_markIntSS.tot_append (l.take i) (l.drop i)
 rw [List.take_append_drop] at this
 omega
set_option maxHeartbeats 1000000 in
set_option maxRecDepth 100000 in
theorem laws_markIntSS.calls (P0_ : Nat → Prop) (u : Value) (l0 : List (List Int)) (a1 : Int) (w0 w : World) (h0 : 0 ≤ a1) (hk : a1 + (laws_markIntSS.tot l0 : Int) ≤ 4611686018427387904) (hB : Below w0.heap.size w0 w) (ho0 : Kd.S (Kd.slice 3 (Kd.int .i64)) 24 w w0.heap.size P0_ u l0) :
  Calls Try.prog 39 #[u, .int .i64 a1] w fun e w' => e = .returned (.int .i64 (a1 + (laws_markIntSS.tot l0 : Int))) ∧ Kd.S (Kd.slice 3 (Kd.int .i64)) 24 w' w0.heap.size P0_ u (laws_markIntSS.rows a1 l0) ∧ Below w0.heap.size w0 w' ∧ Kept w w' P0_ := by
 obtain ⟨A, c, rfl, hlc, hC⟩ := Kd.S_reads ho0
 have hmax := Kd.C_max hC
 clear hC
 have HO := Aside0.mk ho0
 have HB := Aside0.mk hB
 clear ho0 hB
 have HZ := Aside0.mk (show laws_markIntSS.upto a1 l0 0 = l0 from by simp [laws_markIntSS.upto, laws_markIntSS.rows])
 have HT := Aside0.mk (fun i => laws_markIntSS.tot_le l0 i)
 go_enter Try.func39, Try.ntmps39
 go_wp2
 go_loopg [1, 5] l0.length (fun gg s1 s5 wr => ∃ i : Nat, i ≤ l0.length ∧ l0.length - i ≤ gg ∧ s1 = .int .i64 (a1 + (laws_markIntSS.tot (l0.take i) : Int)) ∧ s5 = .int .i64 i ∧ Aside0 (Kd.S (Kd.slice 3 (Kd.int .i64)) 24 wr w0.heap.size P0_ (.slice A l0.length c) (laws_markIntSS.upto a1 l0 i)) ∧ Aside0 (Below w0.heap.size w0 wr) ∧ Aside0 (Kept w wr P0_))
 case atStart => exact ⟨0, Nat.zero_le _, by omega, by simp [laws_markIntSS.tot], rfl, ⟨by rw [HZ.out]; exact HO.out⟩, HB, ⟨Kept.refl _ _⟩⟩
 case round =>
  obtain ⟨i, hi, hg, rfl, rfl, HS, HBr, HKr⟩ := hrel
  by_cases hlt : i < l0.length
  ·have hltz : (i : Int) < (l0.length : Int) := by omega
   have hz : (0 : Int) ≤ (i : Int) := by omega
   obtain ⟨g, cap, hv, hgb, hgl, cells, hgc⟩ := Kd.S_form HS.out (by rw [laws_markIntSS.upto_length]; omega)
   rw [laws_markIntSS.upto_length] at hv
   injection hv with hv1 hv2 hv3
   subst hv1
   subst hv3
   clear hv2 hgc
   obtain ⟨oki, cs, hcl, hM, hcc, hoki, hH⟩ := Kd.S_lend HS.out [] (i : Int) hz hltz
   obtain ⟨vi, rfl, hR⟩ := hM
   have hx := hcc 0 _ rfl
   rw [Int.toNat_natCast, laws_markIntSS.upto_at a1 l0 i hlt] at hR
   simp only [Int.toNat_natCast, show (Kd.slice 3 (Kd.int .i64)).sz = 1 from rfl, Nat.mul_one, Nat.add_zero] at hx
   have hUS := laws_markIntSS.upto_set a1 l0 i hlt
   have hTT := laws_markIntSS.tot_take l0 i hlt
   have hle := HT.out (i + 1)
   have hm := laws_markIntSS.mark l0[i] (a1 + (laws_markIntSS.tot (l0.take i) : Int)) (by omega) (by omega)
   have HUS := Aside0.mk hUS
   have HTT := Aside0.mk hTT
   have HM := Aside0.mk hm
   have HR := Aside0.mk hR
   have HOI := Aside0.mk hoki
   have HH := Aside0.mk hH
   clear hUS hTT hm hle hR hcc hcl hoki hH
   obtain ⟨Ai, ci, e1⟩ := Kd.R_slice HR.out
   subst e1
   go_wp2_with (go_at_call 46; refine (laws_markIntS.calls _ oki _ l0[i] _ _ _ w0 _ HBr.out HR.out HM.out).mono ?_; rintro e w' ⟨rfl, hr', hb', hk'⟩)
   have HR' := Aside0.mk hr'
   have HB' := Aside0.mk hb'
   have HK' := Aside0.mk hk'
   clear hr' hb' hk'
   go_roundg (l0.length - (i + 1))
   case measure => omega
   case rel =>
    refine ⟨i + 1, by omega, by omega, ?_, by go_num, ⟨?_⟩, HB', ⟨?_⟩⟩
    ·rw [HTT.out]; push_cast; first | rfl | (congr 1; omega)
    ·rw [← HUS.out]
     have h2 := Kd.H_back (Kd.H_kept HH.out HK'.out (fun k _ hn => hn)) (x' := laws_markIntSS.row (a1 + (laws_markIntSS.tot (l0.take i) : Int)) l0[i].length) (okp := oki) ⟨_, rfl, Kd.R_reok rfl HR'.out (fun k e_ => HR.out.1 k e_)⟩ (fun _ h => h)
     rw [Int.toNat_natCast] at h2
     exact h2
    ·exact Kept.then_ HKr.out HK'.out (fun k hk => .inl (HOI.out k hk).1)
  ·have hltz : ¬ (i : Int) < (l0.length : Int) := by omega
   have hk2 : i = l0.length := by omega
   subst hk2
   have HF := Aside0.mk (show laws_markIntSS.upto a1 l0 l0.length = laws_markIntSS.rows a1 l0 from by simp [laws_markIntSS.upto])
   go_wp2
   go_ret
   exact ⟨rfl, by rw [← HF.out]; exact HS.out, HBr.out, HKr.out⟩

/-- A mark at which the walk halts. -/
def Stop (p : Prop) : Prop := p
theorem StopI {p : Prop} (h : Stop p) : p := h
/-- Rows of rows between two marks of the heap. -/
structure OwnSS (w W : World) (lo hi : Nat) (v : Value) (R : List (List Int)) : Prop where
  s : Kd.S (Kd.slice 3 (Kd.int .i64)) 24 W w.heap.size (fun k => lo ≤ k ∧ k < hi) v R
  b : w.heap.size ≤ lo
  t : hi ≤ W.heap.size
/-- A row between two marks of the heap. -/
structure OwnR {α : Type} (d : Kd α) (e : Nat) (w W : World) (lo hi : Nat) (v : Value) (R : List α) : Prop where
  s : Kd.R d e W w.heap.size (fun k => lo ≤ k ∧ k < hi) v R
  b : w.heap.size ≤ lo
  t : hi ≤ W.heap.size
theorem OwnSS.new {w w1 w2 : World} {v : Value} {R : List (List Int)} (ho : Kd.S (Kd.slice 3 (Kd.int .i64)) 24 w2 w1.heap.size (fun _ => True) v R) (HB : Below w.heap.size w w1) : OwnSS w w2 w1.heap.size w2.heap.size v R :=
  ⟨Kd.S_lower (Kd.S_mono (Kd.S_bound ho) (fun _ hk => ⟨hk.2.1, hk.2.2.1⟩)) HB.size, HB.size, Nat.le_refl _⟩
theorem OwnSS.step {w W W' : World} {lo hi : Nat} {v : Value} {R : List (List Int)} (h : OwnSS w W lo hi v R) (hb : Below W.heap.size W W') : OwnSS w W' lo hi v R := ⟨Kd.S_below h.s hb, h.b, Nat.le_trans h.t hb.size⟩
theorem OwnSS.kept {w W W' : World} {lo hi : Nat} {P : Nat → Prop} {v : Value} {R : List (List Int)} (h : OwnSS w W lo hi v R) (hk : Kept W W' P) (hP : ∀ k, lo ≤ k → k < hi → ¬ P k) : OwnSS w W' lo hi v R :=
  ⟨Kd.S_kept h.s hk (fun k hk => hP k hk.1 hk.2), h.b, Nat.le_trans h.t hk.1⟩
theorem OwnSS.reads {w W : World} {lo hi : Nat} {v : Value} {R : List (List Int)} (h : OwnSS w W lo hi v R) : ∃ A c, v = .slice A R.length c ∧ R.length ≤ c := by
  obtain ⟨A, c, e, hl, _⟩ := Kd.S_reads h.s
  exact ⟨A, c, e, hl⟩
theorem OwnSS.c {w W : World} {lo hi n c : Nat} {A : Option Addr} {R : List (List Int)} (h : OwnSS w W lo hi (.slice A n c) R) : Kd.C (Kd.slice 3 (Kd.int .i64)) W A R.length R := (Kd.S_reads' h.s).2.2
theorem OwnSS.done {w W W' : World} {lo hi : Nat} {v : Value} {R R' : List (List Int)} (h : OwnSS w W lo hi v R) (hs : Kd.S (Kd.slice 3 (Kd.int .i64)) 24 W' w.heap.size (fun k => lo ≤ k ∧ k < hi) v R') (hk : W.heap.size ≤ W'.heap.size) : OwnSS w W' lo hi v R' := ⟨hs, h.b, Nat.le_trans h.t hk⟩
section
variable {α : Type} {d : Kd α} {e : Nat}
theorem OwnR.new {w w1 w2 : World} {v : Value} {R : List α} (ho : Kd.R d e w2 w1.heap.size (fun _ => True) v R) (HB : Below w.heap.size w w1) : OwnR d e w w2 w1.heap.size w2.heap.size v R :=
  ⟨Kd.R_lower (Kd.R_mono (Kd.R_bound ho) (fun _ hk => ⟨hk.2.1, hk.2.2.1⟩)) HB.size, HB.size, Nat.le_refl _⟩
theorem OwnR.step {w W W' : World} {lo hi : Nat} {v : Value} {R : List α} (h : OwnR d e w W lo hi v R) (hb : Below W.heap.size W W') : OwnR d e w W' lo hi v R := ⟨Kd.R_below h.s hb, h.b, Nat.le_trans h.t hb.size⟩
theorem OwnR.kept {w W W' : World} {lo hi : Nat} {P : Nat → Prop} {v : Value} {R : List α} (h : OwnR d e w W lo hi v R) (hk : Kept W W' P) (hP : ∀ k, lo ≤ k → k < hi → ¬ P k) : OwnR d e w W' lo hi v R :=
  ⟨Kd.R_kept h.s hk (fun k hk => hP k hk.1 hk.2), h.b, Nat.le_trans h.t hk.1⟩
theorem OwnR.reads {w W : World} {lo hi : Nat} {v : Value} {R : List α} (h : OwnR d e w W lo hi v R) : ∃ A c, v = .slice A R.length c ∧ R.length ≤ c := by
  obtain ⟨A, c, e, hl, _⟩ := Kd.R_reads h.s
  exact ⟨A, c, e, hl⟩
theorem OwnR.c {w W : World} {lo hi n c : Nat} {A : Option Addr} {R : List α} (h : OwnR d e w W lo hi (.slice A n c) R) : Kd.C d W A R.length R := (Kd.R_reads' h.s).2.2
theorem OwnR.done {w W W' : World} {lo hi : Nat} {v : Value} {R R' : List α} (hE : d.E = []) (h : OwnR d e w W lo hi v R) {ok : Nat → Prop} (hs : Kd.R d e W' w.heap.size ok v R') (hk : W.heap.size ≤ W'.heap.size) : OwnR d e w W' lo hi v R' :=
  ⟨Kd.R_reok hE hs (fun k he => h.s.1 k he), h.b, Nat.le_trans h.t hk⟩
end
theorem OwnR.cell {w W : World} {lo hi n cap g : Nat} {x : List Int} (h : OwnR (Kd.int .i64) 3 w W lo hi (.slice (some ⟨g, 0, none⟩) n cap) x) (i : Nat) (hi2 : i < n) (a : Int) (ha : x.getD i 0 = a) :
    W.cell? ⟨g, i, none⟩ = some (.int .i64 a) ∧ W.frozen? ⟨g, i, none⟩ = false := by
  have h2 := Kd.R_celln (0 : Int) h.s (i : Int) (by omega) (by omega)
  have h3 : rdOf (0 : Int) x (i : Int) = a := by rw [← ha]; show x.getD (i : Int).toNat 0 = _; rw [Int.toNat_natCast]
  rw [h3, Int.toNat_natCast] at h2
  exact h2
theorem OwnR.put {w W : World} {lo hi n cap g : Nat} {x : List Int} (h : OwnR (Kd.int .i64) 3 w W lo hi (.slice (some ⟨g, 0, none⟩) n cap) x) (i : Nat) (v : Int) :
    OwnR (Kd.int .i64) 3 w (W.setCell ⟨g, i, none⟩ (.int .i64 v)) lo hi (.slice (some ⟨g, 0, none⟩) n cap) (x.set i v) := by
  have h2 := Kd.R_putn h.s (i : Int) v
  rw [Int.toNat_natCast] at h2
  exact ⟨h2, h.b, by have := h.t; simpa [World.setCell] using this⟩
theorem OwnR.far {α : Type} {d : Kd α} {e : Nat} {w W : World} {lo hi : Nat} {v : Value} {x : List α} (h : OwnR d e w W lo hi v x) {p : Addr} (hp : p.block < lo ∨ hi ≤ p.block) (u : Value) : OwnR d e w (W.setCell p u) lo hi v x :=
  ⟨Kd.R_far h.s (fun k hk => by omega) u, h.b, by have := h.t; simpa [World.setCell] using this⟩
theorem OwnR.blk {α : Type} {d : Kd α} {e : Nat} {w W : World} {lo hi n cap g : Nat} {x : List α} (h : OwnR d e w W lo hi (.slice (some ⟨g, 0, none⟩) n cap) x) : lo ≤ g ∧ g < hi := h.s.1 g (by simp [Value.ownBlock])
theorem OwnR.form {α : Type} {d : Kd α} {e : Nat} {w W : World} {lo hi n c : Nat} {A : Option Addr} {x : List α} (h : OwnR d e w W lo hi (.slice A n c) x) (hp : 0 < x.length) : ∃ g, A = some ⟨g, 0, none⟩ := by
  obtain ⟨g, cap, hv, _⟩ := Kd.R_form h.s hp
  injection hv with e1 _ _
  exact ⟨g, e1⟩
/-- A place of rows of rows: its cell, and what a store there leaves. -/
theorem tab_cell {W : World} {base n c : Nat} {ok : Nat → Prop} {A : Option Addr} {R : List (List Int)} (h : Kd.S (Kd.slice 3 (Kd.int .i64)) 24 W base ok (.slice A n c) R) (i j : Nat) (hi : i < R.length) (hj : j < (R.getD i []).length) :
    ∃ g gi ci : Nat, A = some ⟨g, 0, none⟩ ∧ W.cell? ⟨g, i, none⟩ = some (.slice (some ⟨gi, 0, none⟩) (R.getD i []).length ci) ∧ W.cell? ⟨gi, j, none⟩ = some (.int .i64 ((R.getD i []).getD j 0)) ∧ W.frozen? ⟨gi, j, none⟩ = false ∧ ok gi ∧ base ≤ gi ∧ gi < W.heap.size ∧
      ∀ v, Kd.S (Kd.slice 3 (Kd.int .i64)) 24 (W.setCell ⟨gi, j, none⟩ (.int .i64 v)) base ok (.slice A n c) (R.set i ((R.getD i []).set j v)) := by
  obtain ⟨hn, hle, hC⟩ := Kd.S_reads' h
  obtain ⟨g, cap, hv, hb, hl, hcells⟩ := Kd.R_form (Kd.S_R h) (by omega)
  injection hv with e1 e2 e3
  subst e1
  obtain ⟨oki, cs, hcl, hM, hcc, hok, hbk⟩ := Kd.S_borrow h [] (i : Int) (by omega) (by omega)
  rw [Int.toNat_natCast] at hM hcc hbk
  obtain ⟨u, rfl, hR⟩ := hM
  have hu := hcc 0 _ rfl
  obtain ⟨gi, ci, rfl, hbi, hli, _⟩ := Kd.R_form hR (by omega)
  obtain ⟨h2, h3⟩ := Kd.R_celln (0 : Int) hR (j : Int) (by omega) (by omega)
  have h4 : rdOf (0 : Int) (R.getD i []) (j : Int) = (R.getD i []).getD j 0 := by show (R.getD i []).getD (j : Int).toNat 0 = _; rw [Int.toNat_natCast]
  rw [h4, Int.toNat_natCast] at h2
  rw [Int.toNat_natCast] at h3
  have hoi : oki gi := hR.1 gi (by simp [Value.ownBlock])
  refine ⟨g, gi, ci, rfl, ?_, h2, h3, (hok gi hoi).1, hbi, hli, fun v => ?_⟩
  · have h5 : (⟨g, 0, none⟩ : Addr).add (i * 1 + 0) = ⟨g, i, none⟩ := by rw [Nat.mul_one, Nat.add_zero, add_plain]
    rw [← h5]; exact hu
  · have h6 := Kd.R_putg hR (j : Int) v
    rw [Int.toNat_natCast] at h6
    exact hbk h6.2 (fun k hk => by injection hk with hk; subst hk; exact hoi) ⟨_, rfl, h6.1⟩
theorem OwnSS.far {w W : World} {lo hi : Nat} {v : Value} {R : List (List Int)} (h : OwnSS w W lo hi v R) {p : Addr} (hp : p.block < lo ∨ hi ≤ p.block) (u : Value) : OwnSS w (W.setCell p u) lo hi v R :=
  ⟨Kd.S_far h.s (fun k hk => by omega) u, h.b, by have := h.t; simpa [World.setCell] using this⟩
theorem OwnSS.put {w W : World} {lo hi n c : Nat} {A : Option Addr} {R : List (List Int)} (h : OwnSS w W lo hi (.slice A n c) R) (i j : Nat) (hi2 : i < R.length) (hj : j < (R.getD i []).length) :
    ∃ g gi ci : Nat, A = some ⟨g, 0, none⟩ ∧ W.cell? ⟨g, i, none⟩ = some (.slice (some ⟨gi, 0, none⟩) (R.getD i []).length ci) ∧ W.cell? ⟨gi, j, none⟩ = some (.int .i64 ((R.getD i []).getD j 0)) ∧ W.frozen? ⟨gi, j, none⟩ = false ∧ lo ≤ gi ∧ gi < hi ∧
      ∀ v, OwnSS w (W.setCell ⟨gi, j, none⟩ (.int .i64 v)) lo hi (.slice A n c) (R.set i ((R.getD i []).set j v)) := by
  obtain ⟨g, gi, ci, h1, h2, h3, h4, h5, _, _, h7⟩ := tab_cell h.s i j hi2 hj
  exact ⟨g, gi, ci, h1, h2, h3, h4, h5.1, h5.2, fun v => ⟨h7 v, h.b, by have := h.t; simpa [World.setCell] using this⟩⟩
theorem step_append_int {ops : Array Oper} {o : Oper} {a : Act} {K : Act → World → Prop} {Q : Exit → Act → World → Prop} {E : Prop} {W : World} (hgd : o.guard = none) (s x : Operand)
    (ho : o.op = .call { callee := .builtin .append, args := #[s, x], argTypes := #[24, 24] }) (base : Nat) (v : Value) (xs : List Int) (z : Int) (ok : Nat → Prop) (hs : a.eval s = v) (HO : Kd.R (Kd.int .i64) 3 W base ok v xs) (hfresh : ∀ k, W.heap.size ≤ k → ok k)
    (ad : Addr) (c : Nat) (hx : a.eval x = .slice (some ad) 1 c) (hnews : W.cell? ad = some (.int .i64 z)) (hl : (xs.length + 1) * 8 ≤ 140737488355328) (hbase : base ≤ W.heap.size)
    (h : ∀ g cap w', Kd.R (Kd.int .i64) 3 w' base ok (.slice (some ⟨g, 0, none⟩) (xs.length + 1) cap) (xs ++ [z]) → W.grownBy w' v.ownBlock → K (a.put o.dst (.slice (some ⟨g, 0, none⟩) (xs.length + 1) cap)) w') :
    if Region.wanted o (yielded ops a.tmps) = true then Oper.wp Try.prog o a W K Q else E := by
  obtain ⟨h0, inner, hown, hr⟩ := HO
  obtain ⟨i, hi, hz0, hz1, hz2⟩ := info_parts info3
  refine step_append_lies W hgd s x _ ho base 3 i (.int .i64 0) 1 8 Try.underlying24 hi hz0 hz1 hz2 rfl (by omega) v xs.length inner hs hown ad 1 c [.int .i64 z] hx rfl (fun j u hj => ?_) (by simp [Value.oneCell']) (by omega) (by have : maxLen = 9223372036854775807 := rfl; omega) hl hbase W.heap.size rfl ?_
  · cases j with
    | zero =>
      simp at hj
      subst hj
      have : ad.add 0 = ad := by cases ad; rename_i b o' p; cases p <;> rfl
      rw [this]; exact hnews
    | succ j => simp at hj
  · intro g cap w' h1 h2 h3 h4
    refine h g cap w' (Kd.R_appended (v := v) (okp := fun _ => False) h0 hr rfl (fun _ hk => hk.elim) hfresh h1 h2 ?_) h2
    rcases h3 with h3 | h3
    · left; rw [h3]; rfl
    · right; exact ⟨g, rfl, by omega⟩

def impl_has.f (a0 : Int) (a1 : Int) : Option (Bool) := if 0 ≤ a1 then (some ((Go.bits .and .i64 (shr .i64 a0 a1) 1) == 1)) else (none)
set_option maxHeartbeats 8000000 in
set_option maxRecDepth 100000 in
theorem impl_has.calls (a0 : Int) (a1 : Int) (r : Bool) (w : World) (h : impl_has.f a0 a1 = some r) :
  Calls Try.prog 209 #[.int .i64 a0, .int .i64 a1] w fun e w' => e = .returned (.bool r) ∧ Drawn0 w w' := by
 have H : (if 0 ≤ a1 then (some ((Go.bits .and .i64 (shr .i64 a0 a1) 1) == 1)) else (none)) = some r := h
 clear h
 by_cases c3 : 0 ≤ a1
 ·rw [if_pos c3] at H
  have c3b0 := eq_true c3
  have c3b1 : decide (0 ≤ a1) = true := decide_eq_true c3
  clear c3
  obtain ⟨ji4, hji4⟩ : ∃ j_ : Int, (shr .i64 a0 a1) = j_ := ⟨_, rfl⟩
  replace H : (some ((Go.bits .and .i64 (ji4) 1) == 1)) = some r := by first | (rw [hji4] at H; exact H) | (simp only [hji4] at H ⊢; exact H)
  have hji4_ : (a0 / 2 ^ min a1.toNat 64) = ji4 := hji4
  have hji4z : a1 ≤ 64 → (a0 / 2 ^ a1.toNat) = ji4 := shr_small hji4
  obtain rfl := Option.some.inj H
  go_enter Try.func209, Try.ntmps209
  go_wp2
  go_ret
  exact ⟨by first | rfl | (simp; done) | (simp only [← hji4] <;> (first | rfl | simp)) | (simp [*]; done), by repeat (first | exact Drawn0.refl _ | apply Drawn0.step)⟩
 ·rw [if_neg c3] at H
  exact absurd H (by simp)

/-- THE ONE PURE STATEMENT of impl_has: yours. -/
def impl_has.Pure : Prop := ∀ (a0 : Int) (a1 : Int), (Lit.int .i64 a0).wf = true → (Lit.int .i64 a1).wf = true → impl_has.f a0 a1 = some true
theorem impl_has.walk (P : impl_has.Pure) (a0 : Int) (a1 : Int) (w : World) (w0 : (Lit.int .i64 a0).wf = true) (w1 : (Lit.int .i64 a1).wf = true) :
  Calls Try.prog 209 #[.int .i64 a0, .int .i64 a1] w fun e w' => e = .returned (.bool true) ∧ Below w.heap.size w w' := by
 have h := P a0 a1 w0 w1
 refine (impl_has.calls a0 a1 true w h).mono ?_
 rintro e w' ⟨rfl, hd⟩
 exact ⟨rfl, hd.below⟩


def slices_Clone_int_int.f (l0 : List Int) : Option (List Int) := if l0.length < 17592186044416 then some l0 else none
set_option maxHeartbeats 1000000 in
set_option maxRecDepth 100000 in
theorem slices_Clone_int_int.calls (A0 : Option Addr) (c0 : Nat) (l0 : List Int) (r : List Int) (w : World) (hr0 : Kd.C (Kd.int .i64) w A0 l0.length l0) (hc0 : l0.length ≤ c0) (h : slices_Clone_int_int.f l0 = some r) :
  Calls Try.prog 199 #[.slice A0 l0.length c0] w fun e w' => ∃ v0_ : Value, e = .returned (v0_) ∧ Kd.R (Kd.int .i64) 3 w' w.heap.size (fun _ => True) v0_ r ∧ Below w.heap.size w w' := by
 unfold slices_Clone_int_int.f at h
 by_cases hl : l0.length < 17592186044416
 ·rw [if_pos hl] at h
  obtain rfl := Option.some.inj h
  clear h
  have heq := fun (W : World) (n : Nat) => Lib.run_eql_slice_nil (P := Try.prog) W 24 3 A0 n c0 0 0 Try.underlying24
  cases A0 with
  | none =>
   have h0 : l0 = [] := by
    cases l0 with
    | nil => rfl
    | cons x t => obtain ⟨ad, e, _⟩ := hr0.2.2 (by simp); cases e
   subst h0
   clear hr0 hl
   go_enter Try.func199, Try.ntmps199
   go_wp2
   go_ret
   exact ⟨_, rfl, Kd.R_nil _ _ _ _ _, Below.refl _ _⟩
  | some ad =>
   have HR0 := Aside0.mk hr0
   have HL := Aside0.mk hl
   have HB := Aside0.mk (Below.refl w.heap.size w)
   clear hr0 hl
   go_enter Try.func199, Try.ntmps199
   go_wp2_with (first | ((with_reducible refine gate_dst (N := 5) rfl ?_); refine Kd.R_lit (Kd.int .i64) _ 3 ?hg (N := 5) ?hd (xs := ([] : List Int)) (inner := []) (ok := fun _ => True) (okp := fun _ => True) ?hr ?hp (fun _ hk => hk) trivial (Below.refl _ _) (Nat.le_refl _) (by simp) ?_; (case hd => rfl); (case hg => rfl); (case hr => first | (go_simp; done) | (go_simp; rfl)); (case hp => exact (Reps.none _ _)); intro v112 w3 ho4 hb hg_ hnew_; clear hg_ hnew_; have n0_ := Aside0.mk (Kd.R_lower ho4 (below_size (by repeat (first | (with_reducible first | exact HB.out | apply below_alloc | apply pw_below_drewN | apply below_drew1) | exact HB.out)))); have n1_ := Aside0.mk (below_step (by repeat (first | (with_reducible first | exact HB.out | apply below_alloc | apply pw_below_drewN | apply below_drew1) | exact HB.out)) hb); clear HB; have HO113 := n0_; have HB := n1_; clear n0_ n1_; clear hb ho4) | ((with_reducible refine gate_builtin (b := .append) (xs := #[.tmp 5, .tmp 6]) rfl ?_); at_builtin; refine Kd.R_append_rows (Kd.int .i64) (w0 := w) w.heap.size rfl (.tmp 5) (.tmp 6) 24 3 (.int .i64 0) 8 rfl Try.underlying24 info3 rfl (by decide) (by omega) v112 [] l0 _ _ _ (fun _ => True) (fun _ => False) rfl rfl ?aO ?aR (fun _ _ h => h) (fun _ h => h.elim) ?aF ?aB ?aS ?aL ?_; (case aR => repeat (first | exact (Kd.C_below HR0.out HB.out) | (with_reducible refine Kd.C_alloc ?_ _) | (with_reducible refine Kd.C_drewN ?_ _) | (with_reducible refine Kd.C_drew ?_))); (case aB => exact (by repeat (first | (with_reducible first | exact HB.out | apply below_alloc | apply pw_below_drewN | apply below_drew1) | exact HB.out))); (case aF => exact (fun _ _ => trivial)); (case aO => exact (by (with_reducible repeat (first | apply Kd.R_alloc | apply Kd.R_drewN | apply Kd.R_drew)); exact HO113.out)); (case aS => exact (below_size (by repeat (first | (with_reducible first | exact HB.out | apply below_alloc | apply pw_below_drewN | apply below_drew1) | exact HB.out)))); (case aL => have := HL.out; simp only [List.length_nil]; omega); intro v115 w5 ho hb hg hat; have n0_ := Aside0.mk (hb); have n1_ := Aside0.mk (ho); clear HB; clear HO113; have HB := n0_; have HO116 := n1_; clear n0_ n1_; clear ho hb hg hat))
   go_ret
   exact ⟨_, rfl, HO116.out, HB.out⟩
 ·rw [if_neg hl] at h
  cases h

def hasB (u i : Int) : Bool := Go.bits .and .i64 (shr .i64 u i) 1 == 1
def setB (u : Int) (i : Nat) : Int := Go.bits .or .i64 u (IntKind.i64.wrap (2 ^ min i 64))
/-- The orders that go on an order, d places more. -/
def exts (x : List Int) : Nat → Int → List Int → List (List Int)
  | 0, _, o => [o]
  | d + 1, u, o => (List.range x.length).flatMap fun (i : Nat) => if hasB u (i : Int) then [] else exts x d (setB u i) (o ++ [x.getD i 0])
def extsTo (x : List Int) (d : Nat) (u : Int) (o : List Int) (n : Nat) : List (List Int) := (List.range n).flatMap fun (i : Nat) => if hasB u (i : Int) then [] else exts x d (setB u i) (o ++ [x.getD i 0])
theorem extsTo_succ (x : List Int) (d : Nat) (u : Int) (o : List Int) (n : Nat) : extsTo x d u o (n + 1) = extsTo x d u o n ++ (if hasB u (n : Int) then [] else exts x d (setB u n) (o ++ [x.getD n 0])) := by
  unfold extsTo; rw [List.range_succ, List.flatMap_append]; simp only [List.flatMap_cons, List.flatMap_nil, List.append_nil]
theorem extsTo_len (x : List Int) (d : Nat) (u : Int) (o : List Int) : ∀ (m n : Nat), n ≤ m → (extsTo x d u o n).length ≤ (extsTo x d u o m).length
  | 0, n, h => by
    obtain rfl : n = 0 := Nat.le_zero.1 h
    exact Nat.le_refl _
  | m + 1, n, h => by
    by_cases e : n = m + 1
    · subst e; exact Nat.le_refl _
    · have := extsTo_len x d u o m n (by omega)
      rw [extsTo_succ, List.length_append]
      omega
theorem exts_eq (x : List Int) (d : Nat) (u : Int) (o : List Int) : exts x (d + 1) u o = extsTo x d u o x.length := rfl
set_option maxHeartbeats 4000000 in
set_option maxRecDepth 100000 in
theorem orders_extend (g : Nat) (lb : Array Value) (eg : ∀ args w, (callFunc g args).run Try.prog w = .ok (.enter g args) w) (Inv : List (List Int) → World → (Nat → Prop) → Prop) (M : Nat) (w0 : World) (x : List Int) (Ax : Option Addr) (cx : Nat)
    (hx : Kd.C (Kd.int .i64) w0 Ax x.length x) (hcx : x.length ≤ cx) (hlx : x.length ≤ 8) (bx bv be : Nat)
    (hlt : ∀ vs W own, Inv vs W own → ∀ k, own k → k < W.heap.size)
    (hmove : ∀ vs W W' own, Inv vs W own → W.heap.size ≤ W'.heap.size → (∀ k, own k → W'.heap[k]? = W.heap[k]?) → Inv vs W' own)
    (hvisit : ∀ (W : World) (vs : List (List Int)) (own : Nat → Prop) (o : List Int) (Ao : Option Addr) (co : Nat), Inv vs W own → vs.length < M → Below w0.heap.size w0 W → o.length = x.length → Kd.C (Kd.int .i64) W Ao o.length o → o.length ≤ co →
      Calls Try.prog g (#[.slice Ao o.length co] ++ lb) W fun e W' => e = .returned (.tuple #[]) ∧ ∃ own', Inv (vs ++ [o]) W' own' ∧ Below w0.heap.size w0 W' ∧ Kept W W' own ∧ ∀ k, own' k → own k ∨ W.heap.size ≤ k) :
    ∀ (d : Nat) (u : Int) (o : List Int) (vs : List (List Int)) (W : World) (own ok : Nat → Prop) (Ao : Option Addr) (co : Nat), vs.length + (exts x d u o).length ≤ M → o.length + d = x.length → W.heap[bx]? = some (.cells #[.slice Ax x.length cx] 24 (0, 0)) → W.heap[bv]? = some (.cells #[.func (.func g) #[] lb] 100 (0, 0)) →
      W.heap[be]? = some (.cells #[.func (.func 208) #[] #[.pointer (some ⟨bx, 0, none⟩), .pointer (some ⟨bv, 0, none⟩), .pointer (some ⟨be, 0, none⟩)]] 121 (0, 0)) → ¬ own bx → ¬ own bv → ¬ own be →
      Inv vs W own → Below w0.heap.size w0 W → Kd.F (Kd.int .i64) W ok Ao o.length o → (∀ k, ok k → ¬ own k ∧ k < W.heap.size) → o.length ≤ co →
      Calls Try.prog 208 #[.int .i64 u, .slice Ao o.length co, .pointer (some ⟨bx, 0, none⟩), .pointer (some ⟨bv, 0, none⟩), .pointer (some ⟨be, 0, none⟩)] W fun e W' => e = .returned (.tuple #[]) ∧ ∃ own', Inv (vs ++ exts x d u o) W' own' ∧ Below w0.heap.size w0 W' ∧ Kept W W' own ∧ ∀ k, own' k → own k ∨ W.heap.size ≤ k := by
  intro d
  induction d with
  | zero =>
    intro u o vs W own ok Ao co hvm hd hbx hbv hbe hnx hnv hne hI hB hF hok hco
    have cbx := (blk_cell hbx 0).trans rfl
    have cbv := (blk_cell hbv 0).trans rfl
    have hlen : ((o.length : Int) = (x.length : Int)) := by omega
    have HV := Aside0.mk (hvisit W vs own o Ao co hI (by have : (exts x 0 u o).length = 1 := rfl; omega) hB (by omega) (Kd.F_now hF) hco)
    clear hvisit hmove hlt hI hB hF hok hbx hbv hbe hvm
    go_enter Try.func208, Try.ntmps208
    go_wp2_with (refine HV.out.mono ?_; rintro e w1 ⟨rfl, hv⟩)
    (try simp only [Exit.inBlock, Exit.then])
    refine bodyPost_ret (results_none rfl _ _ _) rfl ?_
    exact ⟨rfl, by simpa [exts] using hv⟩
  | succ d ih =>
    intro u o vs W own ok Ao co hvm hd hbx hbv hbe hnx hnv hne hI hB hF hok hco
    obtain ⟨ad, rfl, _⟩ := Kd.at_int hx 0 (by omega) (by omega)
    have cbx := (blk_cell hbx 0).trans rfl
    have hlen : ((o.length : Int) == (x.length : Int)) = false := by rw [beq_eq_false_iff_ne]; omega
    have BX := Aside0.mk hbx
    have BV := Aside0.mk hbv
    have BE := Aside0.mk hbe
    have NX := Aside0.mk hnx
    have NV := Aside0.mk hnv
    have NE := Aside0.mk hne
    have HI0 := Aside0.mk hI
    have HB0 := Aside0.mk hB
    have HF0 := Aside0.mk hF
    have HOK := Aside0.mk hok
    have HCO := Aside0.mk hco
    have HM := Aside0.mk hmove
    have HL := Aside0.mk hlt
    have HX := Aside0.mk hx
    have HD := Aside0.mk hd
    have HLX := Aside0.mk hlx
    have IH := Aside0.mk ih
    have HVM := Aside0.mk hvm
    clear hvisit hmove hlt hI hB hF hok hbx hbv hbe hnx hnv hne ih hx hd hlx hco hvm
    go_enter Try.func208, Try.ntmps208
    go_wp2
    clear hlen
    go_loopg [7, 8, 19] x.length (fun gg _ _ s19 W' => ∃ (i : Nat) (own' : Nat → Prop), s19 = .int .i64 (i : Int) ∧ i ≤ x.length ∧ x.length - i ≤ gg ∧ Aside0 (Inv (vs ++ extsTo x d u o i) W' own') ∧ Aside0 (Below w0.heap.size w0 W') ∧ Aside0 (Kept W W' own) ∧ Aside0 (∀ k, own' k → own k ∨ W.heap.size ≤ k))
    case atStart => exact ⟨0, own, rfl, Nat.zero_le _, by omega, ⟨by simpa [extsTo] using HI0.out⟩, HB0, ⟨Kept.refl W own⟩, ⟨fun k h => .inl h⟩⟩
    case round =>
      obtain ⟨i, own', rfl, hi, hgg, HI, HB, HK, HO⟩ := hrel
      by_cases hlt : i < x.length
      · have hltz : (i : Int) < (x.length : Int) := by omega
        have hiz : (0 : Int) ≤ (i : Int) := by omega
        have HLT := Aside0.mk hlt
        obtain ⟨ad', ea, hxc⟩ := Kd.at_int (Kd.C_below HX.out HB.out) (i : Int) hiz hltz
        injection ea with ea
        subst ea
        rw [Int.toNat_natCast] at hxc
        have hat : rd x (i : Int) = x.getD i 0 := rd_nat_getD x i
        rw [hat] at hxc
        obtain ⟨z, hz⟩ : ∃ z, x.getD i 0 = z := ⟨_, rfl⟩
        rw [hz] at hxc
        have HZ := Aside0.mk hz
        have HH := Aside0.mk (show impl_has.f u (i : Int) = some (hasB u (i : Int)) from by unfold impl_has.f; rw [if_pos hiz]; rfl)
        clear hat hz
        cases hb : hasB u (i : Int) with
        | true =>
          rw [hb] at HH
          go_wp2_with (go_at_call 209; (refine (impl_has.calls u (i : Int) true _ HH.out).mono ?_); rintro e w' ⟨rfl, ⟨nd, rfl⟩⟩)
          go_roundg (x.length - (i + 1))
          case measure => omega
          case rel => exact ⟨i + 1, own', congrArg (Value.int .i64) (wrap64_nat_succ (by have := HLX.out; have := HLT.out; omega)), by have := HLT.out; omega, by have := HLT.out; omega, ⟨by rw [extsTo_succ, hb, if_pos rfl, List.append_nil]; exact HM.out _ _ _ _ HI.out (Nat.le_refl _) (fun _ _ => rfl)⟩, ⟨pw_below_drewN HB.out _⟩, ⟨HK.out.drewN _⟩, HO⟩
        | false =>
          rw [hb] at HH
          have cbe : wr.cell? ⟨be, 0, none⟩ = some (.func (.func 208) #[] #[.pointer (some ⟨bx, 0, none⟩), .pointer (some ⟨bv, 0, none⟩), .pointer (some ⟨be, 0, none⟩)]) := (blk_cell (blk_kept BE.out HK.out NE.out) 0).trans rfl
          go_wp2_with (go_at_call 209; (refine (impl_has.calls u (i : Int) false _ HH.out).mono ?_); rintro e w' ⟨rfl, ⟨nd, rfl⟩⟩)
          have BEr := Aside0.mk (blk_kept BE.out HK.out NE.out)
          have BXr := Aside0.mk (blk_kept BX.out HK.out NX.out)
          have BVr := Aside0.mk (blk_kept BV.out HK.out NV.out)
          have NXr := Aside0.mk (show ¬ own' bx from fun h_ => by have h1_ := HO.out bx h_; have := blk_lt BX.out; rcases h1_ with h1_ | h1_; exact NX.out h1_; omega)
          have NVr := Aside0.mk (show ¬ own' bv from fun h_ => by have h1_ := HO.out bv h_; have := blk_lt BV.out; rcases h1_ with h1_ | h1_; exact NV.out h1_; omega)
          have NEr := Aside0.mk (show ¬ own' be from fun h_ => by have h1_ := HO.out be h_; have := blk_lt BE.out; rcases h1_ with h1_ | h1_; exact NE.out h1_; omega)
          have HCr := Aside0.mk (Kd.F_now (Kd.F_kept HF0.out HK.out (fun k hk => (HOK.out k hk).1)))
          have HREC := Aside0.mk (show ∀ (w6 : World) (gg cap : Nat), Below wr.heap.size wr w6 → Kd.F (Kd.int .i64) w6 (fun k => wr.heap.size ≤ k ∧ k < w6.heap.size) (some ⟨gg, 0, none⟩) (o.length + 1) (o ++ [z]) → o.length + 1 ≤ cap →
              Calls Try.prog 208 #[.int .i64 (Go.bits .or .i64 u (IntKind.i64.wrap (2 ^ min i 64))), .slice (some ⟨gg, 0, none⟩) (o.length + 1) cap, .pointer (some ⟨bx, 0, none⟩), .pointer (some ⟨bv, 0, none⟩), .pointer (some ⟨be, 0, none⟩)] w6 fun e w7 => e = .returned (.tuple #[]) ∧ ∃ own2, Inv (vs ++ extsTo x d u o i ++ exts x d (setB u i) (o ++ [z])) w7 own2 ∧ Below w0.heap.size w0 w7 ∧ Kept w6 w7 own' ∧ (∀ k, own2 k → own' k ∨ w6.heap.size ≤ k) ∧ w7.cell? ⟨be, 0, none⟩ = some (.func (.func 208) #[] #[.pointer (some ⟨bx, 0, none⟩), .pointer (some ⟨bv, 0, none⟩), .pointer (some ⟨be, 0, none⟩)]) from by
            intro w6 gg cap h1 h2 h3
            have hl_ : o.length + 1 = (o ++ [z]).length := by simp
            rw [hl_] at h2 ⊢
            refine (IH.out (setB u i) (o ++ [z]) (vs ++ extsTo x d u o i) w6 own' _ _ cap (by have h1_ := HVM.out; have h2_ := extsTo_len x d u o x.length (i + 1) (by have := HLT.out; omega); rw [exts_eq] at h1_; rw [extsTo_succ, List.length_append, hb, if_neg (by decide), HZ.out] at h2_; rw [List.length_append]; omega) (by have := HD.out; simp; omega) ((h1.block bx (blk_lt BXr.out)).trans BXr.out) ((h1.block bv (blk_lt BVr.out)).trans BVr.out) ((h1.block be (blk_lt BEr.out)).trans BEr.out) NXr.out NVr.out NEr.out (HM.out _ wr w6 own' HI.out h1.size (fun k hk => h1.block k (HL.out _ _ _ HI.out k hk))) (below_then HB.out HB.out.size h1) h2 (fun k hk => ⟨fun ho_ => by have := HL.out _ _ _ HI.out k ho_; have := hk.1; omega, hk.2⟩) (by rw [← hl_]; exact h3)).mono ?_
            rintro e w7 ⟨rfl, own2, hi7, hb7, hk7, ho7⟩
            exact ⟨rfl, own2, hi7, hb7, hk7, ho7, (blk_cell (blk_kept ((h1.block be (blk_lt BEr.out)).trans BEr.out) hk7 NEr.out) 0).trans rfl⟩)
          have HCL := Aside0.mk (show slices_Clone_int_int.f o = some o from by unfold slices_Clone_int_int.f; rw [if_pos (by have := HLX.out; have := HD.out; omega)])
          go_region_held3 (fun w' => w'.cell? ⟨be, 0, none⟩ = some (.func (.func 208) #[] #[.pointer (some ⟨bx, 0, none⟩), .pointer (some ⟨bv, 0, none⟩), .pointer (some ⟨be, 0, none⟩)])) (go_keep)
            (first
              | (go_at_call 199; (refine (slices_Clone_int_int.calls _ _ o o _ ?s1 HCO.out HCL.out).mono ?_); (case s1 => (with_reducible repeat (first | refine Kd.C_alloc ?_ _ | refine Kd.C_drewN ?_ _ | refine Kd.C_drew ?_)); exact HCr.out); rintro e w5 ⟨v5, rfl, ho5, hb5⟩; have KB := Aside0.mk (show Below wr.heap.size wr w5 from below_step (by repeat (first | (with_reducible first | exact (Below.refl _ _) | apply below_alloc | apply pw_below_drewN | apply below_drew1) | exact (Below.refl _ _))) hb5); have R5 := Aside0.mk (show Kd.R (Kd.int .i64) 3 w5 wr.heap.size (fun k => wr.heap.size ≤ k) v5 o from Kd.R_lower (Kd.R_mono (ok' := fun k => wr.heap.size ≤ k) (Kd.R_bound ho5) (fun k hk => Nat.le_trans (below_size (by repeat (first | (with_reducible first | exact (Below.refl _ _) | apply below_alloc | apply pw_below_drewN | apply below_drew1) | exact (Below.refl _ _)))) hk.2.1)) (below_size (by repeat (first | (with_reducible first | exact (Below.refl _ _) | apply below_alloc | apply pw_below_drewN | apply below_drew1) | exact (Below.refl _ _))))); have cb5 : w5.cell? ⟨be, 0, none⟩ = some (.func (.func 208) #[] #[.pointer (some ⟨bx, 0, none⟩), .pointer (some ⟨bv, 0, none⟩), .pointer (some ⟨be, 0, none⟩)]) := (blk_cell ((KB.out.block be (blk_lt BEr.out)).trans BEr.out) 0).trans rfl; have hb5' := Aside0.mk hb5; clear hb5 ho5)
              | ((refine step_append_int (by rfl) (.tmp 34) (.tmp 36) (by rfl) wr.heap.size v5 o z (fun k => wr.heap.size ≤ k) (by rfl) (by (with_reducible repeat (first | apply Kd.R_alloc | apply Kd.R_drewN | apply Kd.R_drew)); exact R5.out) (fun k hk => Nat.le_trans (below_size (by repeat (first | (with_reducible first | exact KB.out | apply below_alloc | apply pw_below_drewN | apply below_drew1) | exact KB.out))) hk) _ 1 (by rfl) (by first | exact (blk_cell (heap_alloc_new _ _) 0) | exact (blk_cell ((hb5'.out.block wr.heap.size (by show _ < (wr.heap.push _).size; simp)).trans (heap_alloc_new _ _)) 0)) (by have := HLX.out; have := HD.out; omega) (below_size (by repeat (first | (with_reducible first | exact KB.out | apply below_alloc | apply pw_below_drewN | apply below_drew1) | exact KB.out))) ?_); intro gg cap w6 ho6 hgrow; have KB6 := Aside0.mk (show Below wr.heap.size wr w6 from Below.grown (by repeat (first | (with_reducible first | exact KB.out | apply below_alloc | apply pw_below_drewN | apply below_drew1) | exact KB.out)) hgrow (below_size (by repeat (first | (with_reducible first | exact KB.out | apply below_alloc | apply pw_below_drewN | apply below_drew1) | exact KB.out))) (fun k hk => Kd.R_base R5.out k hk)); have cb6 : w6.cell? ⟨be, 0, none⟩ = some (.func (.func 208) #[] #[.pointer (some ⟨bx, 0, none⟩), .pointer (some ⟨bv, 0, none⟩), .pointer (some ⟨be, 0, none⟩)]) := (blk_cell ((KB6.out.block be (blk_lt BEr.out)).trans BEr.out) 0).trans rfl; have F6 := Aside0.mk (Kd.F_bound (Kd.R_F ho6)); have LC6 := Aside0.mk (Kd.R_reads' ho6).2.1; clear ho6 hgrow)
              | (go_at_call 208; (refine (HREC.out w6 gg cap KB6.out F6.out LC6.out).mono ?_); rintro e w7 ⟨rfl, own2, hi7, hb7, hk7, ho7, cb7⟩; have HI7 := Aside0.mk hi7; have HB7 := Aside0.mk hb7; have HK7 := Aside0.mk hk7; have HO7 := Aside0.mk ho7; clear hi7 hb7 hk7 ho7))
          all_goals
            go_wp2
            go_roundg (x.length - (i + 1))
            case measure => omega
            case rel =>
              refine ⟨i + 1, own2, congrArg (Value.int .i64) (wrap64_nat_succ (by have := HLX.out; have := HLT.out; omega)), by have := HLT.out; omega, by have := HLT.out; omega, ⟨?_⟩, HB7, ⟨?_⟩, ⟨?_⟩⟩
              · have h_ := HI7.out
                rw [← HZ.out] at h_
                rw [extsTo_succ, hb, if_neg (by decide), ← List.append_assoc]
                exact h_
              · exact (HK.out.then_ (Kept.of_below KB6.out own) (fun _ h_ => .inl h_)).then_ HK7.out (fun k h_ => HO.out k h_)
              · intro k h_
                rcases HO7.out k h_ with h_ | h_
                · exact HO.out k h_
                · exact .inr (Nat.le_trans (Nat.le_trans HK.out.1 KB6.out.size) h_)
      · have hltz : ¬ (i : Int) < (x.length : Int) := by omega
        have hix : i = x.length := by omega
        subst hix
        go_wp2
        go_end0
        exact ⟨rfl, own', HI.out, HB.out, HK.out, HO.out⟩

set_option maxHeartbeats 4000000 in
set_option maxRecDepth 100000 in
theorem impl_orders.calls (g : Nat) (lb : Array Value) (eg : ∀ args w, (callFunc g args).run Try.prog w = .ok (.enter g args) w) (Inv : List (List Int) → World → (Nat → Prop) → Prop) (M : Nat) (w0 : World) (x : List Int) (Ax : Option Addr) (cx : Nat)
  (hx : Kd.C (Kd.int .i64) w0 Ax x.length x) (hcx : x.length ≤ cx) (hlx : x.length ≤ 8)
  (hlt : ∀ vs W own, Inv vs W own → ∀ k, own k → k < W.heap.size)
  (hmove : ∀ vs W W' own, Inv vs W own → W.heap.size ≤ W'.heap.size → (∀ k, own k → W'.heap[k]? = W.heap[k]?) → Inv vs W' own)
  (hvisit : ∀ (W : World) (vs : List (List Int)) (own : Nat → Prop) (o : List Int) (Ao : Option Addr) (co : Nat), Inv vs W own → vs.length < M → Below w0.heap.size w0 W → o.length = x.length → Kd.C (Kd.int .i64) W Ao o.length o → o.length ≤ co →
   Calls Try.prog g (#[.slice Ao o.length co] ++ lb) W fun e W' => e = .returned (.tuple #[]) ∧ ∃ own', Inv (vs ++ [o]) W' own' ∧ Below w0.heap.size w0 W' ∧ Kept W W' own ∧ ∀ k, own' k → own k ∨ W.heap.size ≤ k)
  (vs : List (List Int)) (hM : vs.length + (exts x x.length 0 []).length ≤ M) (w : World) (own : Nat → Prop) (hI : Inv vs w own) (hB : Below w0.heap.size w0 w) :
  Calls Try.prog 135 #[.slice Ax x.length cx, .func (.func g) #[] lb] w fun e w' => e = .returned (.tuple #[]) ∧ ∃ own', Inv (vs ++ exts x x.length 0 []) w' own' ∧ Below w0.heap.size w0 w' ∧ Kept w w' own ∧ ∀ k, own' k → own k ∨ w.heap.size ≤ k := by
 have HX := fun bx bv be => orders_extend g lb eg Inv M w0 x Ax cx hx hcx hlx bx bv be hlt hmove hvisit x.length 0 [] vs
 have HE := Aside0.mk HX
 have HI := Aside0.mk hI
 have HB := Aside0.mk hB
 have HL := Aside0.mk hlt
 have HM := Aside0.mk hmove
 have HMM := Aside0.mk hM
 clear HX hI hB hlt hmove hvisit hx hM
 go_enter Try.func135, Try.ntmps135
 go_wp2_with ((with_reducible refine gate_dst (N := 2) rfl ?_); refine box_event ?hg (N := 2) ?hd (cs := #[.slice Ax x.length cx]) (t := 24) ?hr ?_; (case hd => rfl); (case hg => rfl); (case hr => first | (go_simp; done) | (go_simp; rfl)); intro bx hgx wx hxx hbx; have EX := Aside0.mk hgx; clear hgx; apply StopI)
 have BX := Aside0.mk hxx
 have KX := Aside0.mk hbx
 clear hxx hbx
 unfold Stop
 go_wp2_with ((with_reducible refine gate_dst (N := 3) rfl ?_); refine box_event ?hg (N := 3) ?hd (cs := #[.func (.func g) #[] lb]) (t := 100) ?hr ?_; (case hd => rfl); (case hg => rfl); (case hr => first | (go_simp; done) | (go_simp; rfl)); intro bv hgv wv hxv hbv; have EV := Aside0.mk hgv; clear hgv; apply StopI)
 have BV := Aside0.mk hxv
 have KV := Aside0.mk hbv
 clear hxv hbv
 unfold Stop
 go_wp2_with ((with_reducible refine gate_dst (N := 4) rfl ?_); refine box_event ?hg (N := 4) ?hd (cs := #[?zf]) (t := 121) ?hr ?_; (case hd => rfl); (case hg => rfl); (case hr => first | (go_simp; done) | (go_simp; rfl)); intro be hge we hxe hbe; have EE := Aside0.mk hge; clear hge; apply StopI)
 have BE := Aside0.mk hxe
 have KE := Aside0.mk hbe
 have ce : we.cell? ⟨be, 0, none⟩ = some .nilFunc := (blk_cell BE.out 0).trans rfl
 have fe := blk_frozen BE.out 0
 clear hxe hbe
 unfold Stop
 go_wp2_with ((with_reducible refine gate_store (t := 121) (p := 4) rfl ?_); refine store_event (t := 121) (p := 4) (v := ?vo) (w1 := we.setCell ⟨be, 0, none⟩ (.func (.func 208) #[] #[.pointer (some ⟨bx, 0, none⟩), .pointer (some ⟨bv, 0, none⟩), .pointer (some ⟨be, 0, none⟩)])) ?hg ?ho ?hn ?hr ?_; (case ho => rfl); (case hg => rfl); (case hn => rfl); (case hr => first | (go_simp; done) | (go_simp; rfl)); intro ws hw; apply StopI)
 have BEs := Aside0.mk (show ws.heap[be]? = some (.cells #[.func (.func 208) #[] #[.pointer (some ⟨bx, 0, none⟩), .pointer (some ⟨bv, 0, none⟩), .pointer (some ⟨be, 0, none⟩)]] 121 (0, 0)) from by rw [hw]; exact blk_put BE.out 0 _ rfl)
 have gx := Aside0.mk (show bx = w.heap.size from EX.out)
 have gv := Aside0.mk (show bv = wx.heap.size from EV.out)
 have ge := Aside0.mk (show be = wv.heap.size from EE.out)
 have lx := Aside0.mk (blk_lt BX.out)
 have lv := Aside0.mk (blk_lt BV.out)
 have zx := Aside0.mk KX.out.size
 have zv := Aside0.mk KV.out.size
 have KW := Aside0.mk (show Below w.heap.size w ws from by rw [hw]; exact below_set (below_step (below_step KX.out KV.out) KE.out) (by have := gx.out; have := ge.out; have := zx.out; have := zv.out; omega))
 have BXs := Aside0.mk (show ws.heap[bx]? = some (.cells #[.slice Ax x.length cx] 24 (0, 0)) from by rw [hw]; exact blk_far (((KE.out.block bx (by have := lx.out; have := zv.out; omega)).trans ((KV.out.block bx lx.out).trans BX.out))) (by have := lx.out; have := zv.out; have := ge.out; simp only []; omega) _)
 have BVs := Aside0.mk (show ws.heap[bv]? = some (.cells #[.func (.func g) #[] lb] 100 (0, 0)) from by rw [hw]; exact blk_far ((KE.out.block bv lv.out).trans BV.out) (by have := lv.out; have := ge.out; simp only []; omega) _)
 have cs : ws.cell? ⟨be, 0, none⟩ = some (.func (.func 208) #[] #[.pointer (some ⟨bx, 0, none⟩), .pointer (some ⟨bv, 0, none⟩), .pointer (some ⟨be, 0, none⟩)]) := (blk_cell BEs.out 0).trans rfl
 have NX := Aside0.mk (show ¬ own bx from fun h_ => by have := HL.out _ _ _ HI.out _ h_; have := gx.out; omega)
 have NV := Aside0.mk (show ¬ own bv from fun h_ => by have := HL.out _ _ _ HI.out _ h_; have := gv.out; have := zx.out; omega)
 have NE := Aside0.mk (show ¬ own be from fun h_ => by have := HL.out _ _ _ HI.out _ h_; have := ge.out; have := zx.out; have := zv.out; omega)
 have HIs := Aside0.mk (HM.out _ w ws own HI.out KW.out.size (fun k hk => KW.out.block k (HL.out _ _ _ HI.out k hk)))
 have HBs := Aside0.mk (below_then HB.out HB.out.size KW.out)
 clear hw ce fe
 unfold Stop
 go_wp2_with (refine (HE.out bx bv be ws own (fun _ => False) none 0 HMM.out (by simp) BXs.out BVs.out BEs.out NX.out NV.out NE.out HIs.out HBs.out (Kd.F_nil _ _ _) (fun _ hk => hk.elim) (Nat.le_refl _)).mono ?_; rintro e w7 ⟨rfl, own2, hi7, hb7, hk7, ho7⟩; have HI7 := Aside0.mk hi7; have HB7 := Aside0.mk hb7; have HK7 := Aside0.mk hk7; have HO7 := Aside0.mk ho7; clear hi7 hb7 hk7 ho7)
 go_end0
 refine ⟨rfl, own2, HI7.out, HB7.out, (Kept.of_below KW.out own).then_ HK7.out (fun k h_ => .inl h_), fun k h_ => ?_⟩
 rcases HO7.out k h_ with h_ | h_
 ·exact .inl h_
 ·exact .inr (Nat.le_trans KW.out.size h_)

theorem blk_newE {w : World} {o : Obj} {g : Nat} (h : g = w.heap.size) : (w.alloc o).heap[g]? = some o := by subst h; exact blk_new w o
theorem size_alloc (w : World) (o : Obj) : (w.alloc o).heap.size = w.heap.size + 1 := by show (w.heap.push o).size = _; simp
theorem size_drew (w : World) : w.drew.heap.size = w.heap.size := rfl

def impl_power.l0 : Nat → Int → Int → Int → Int → Option (Int)
 | 0, _, _, _, _ => none
 | k + 1, x0, x5, x6, x7 => if x7 < x6 then (impl_power.l0 k x0 (wrap64 (x5 * x0)) x6 (wrap64 (x7 + 1))) else (some x5)
def impl_power.f (k : Nat) (a0 : Int) (a1 : Int) : Option (Int) := impl_power.l0 k a0 1 a1 0
theorem impl_power.mono_l : ∀ k, (∀ y0 y1 y2 y3, LeO (impl_power.l0 k y0 y1 y2 y3) (impl_power.l0 (k + 1) y0 y1 y2 y3))
 | 0 => fun _ _ _ _ r h => by simp [impl_power.l0] at h
 | k + 1 => by
  have ih0 := impl_power.mono_l k
  ·intro y0 y1 y2 y3
   unfold impl_power.l0
   repeat' first
   | (with_reducible exact ih0 _ _ _ _)
   | (with_reducible exact LeO.refl _)
   | (with_reducible exact LeO.none _)
   | (with_reducible refine LeO.ite ?_ ?_)
   | (with_reducible refine LeO.bind ?_ (fun _ => ?_))
   | exact ih0 _ _ _ _
   | exact LeO.none _
   | refine LeO.ite ?_ ?_
   | refine LeO.bind ?_ (fun _ => ?_)
theorem impl_power.mono : ∀ a0 a1 k, LeO (impl_power.f k a0 a1) (impl_power.f (k + 1) a0 a1) := by
 intro a0 a1 k
 have ih0 := impl_power.mono_l k
 unfold impl_power.f
 repeat' first
   | (with_reducible exact ih0 _ _ _ _)
   | (with_reducible exact LeO.refl _)
   | (with_reducible exact LeO.none _)
   | (with_reducible refine LeO.ite ?_ ?_)
   | (with_reducible refine LeO.bind ?_ (fun _ => ?_))
   | exact ih0 _ _ _ _
   | exact LeO.none _
   | refine LeO.ite ?_ ?_
   | refine LeO.bind ?_ (fun _ => ?_)
set_option maxHeartbeats 8000000 in
set_option maxRecDepth 100000 in
theorem impl_power.calls (k : Nat) (a0 : Int) (a1 : Int) (r : Int) (w : World) (h : impl_power.f k a0 a1 = some r) :
  Calls Try.prog 137 #[.int .i64 a0, .int .i64 a1] w fun e w' => e = .returned (.int .i64 r) ∧ Drawn0 w w' := by
 have H : (impl_power.l0 k a0 1 a1 0) = some r := h
 clear h
 have H' := Aside0.mk H
 clear H
 go_enter Try.func137, Try.ntmps137
 go_wp2
 go_loopg [5, 7] k (fun kq v5 v7 w' => ∃ (x5_1 : Int) (x7_1 : Int), v5 = .int .i64 x5_1 ∧ v7 = .int .i64 x7_1 ∧ Aside0 (impl_power.l0 kq a0 x5_1 a1 x7_1 = some r) ∧ Aside0 (kq ≤ k) ∧ Drawn0 w w')
 case atStart => exact ⟨(1), (0), (by first | rfl | (simp; done) | (simp [*]; done)), (by first | rfl | (simp; done) | (simp [*]; done)), H', ⟨Nat.le_refl _⟩, by repeat (first | exact Drawn0.refl _ | apply Drawn0.step)⟩
 case round =>
  clear H'
  try clear c1
  try clear p2
  obtain ⟨x5_1, x7_1, rfl, rfl, HA, HK1, ⟨m1, rfl⟩⟩ := hrel
  cases gk with
  | zero => exact absurd HA.out (by simp [impl_power.l0])
  | succ k1 =>
   have H := HA.out
   clear HA
   simp only [impl_power.l0] at H
   by_cases c3 : x7_1 < a1
   ·rw [if_pos c3] at H
    have c3b0 : decide (x7_1 < a1) = true := decide_eq_true c3
    clear c3
    have H' := Aside0.mk H
    clear H
    go_wp2
    go_roundg k1
    case measure => have := HK1.out; omega
    case rel => exact ⟨(wrap64 (x5_1 * a0)), (wrap64 (x7_1 + 1)), (by first | rfl | (simp; done) | (simp [*]; done)), (by first | rfl | (simp; done) | (simp [*]; done)), H', ⟨by have := HK1.out; omega⟩, by repeat (first | exact Drawn0.refl _ | apply Drawn0.step)⟩
   ·rw [if_neg c3] at H
    have c3b0 : decide (x7_1 < a1) = false := decide_eq_false c3
    clear c3
    obtain rfl := Option.some.inj H
    go_wp2
    go_ret
    exact ⟨by first | rfl | (simp; done) | (simp [*]; done), by repeat (first | exact Drawn0.refl _ | apply Drawn0.step)⟩

def powW (x : Int) : Nat → Int
  | 0 => 1
  | n + 1 => wrap64 (powW x n * x)
theorem power_l0 (x : Int) (n : Nat) (hn : n ≤ 4611686018427387904) : ∀ d (i : Nat), i ≤ n → n - i = d → Ev (fun k => impl_power.l0 k x (powW x i) (n : Int) (i : Int)) (powW x n) := by
  intro d
  induction d with
  | zero =>
    intro i hi hd
    have : i = n := by omega
    subst this
    refine ev_succ ?_
    simp only [impl_power.l0, if_neg (Int.lt_irrefl _)]
    exact ev_now _ _ rfl
  | succ d ih =>
    intro i hi hd
    refine ev_succ ?_
    simp only [impl_power.l0, if_pos (show (i : Int) < (n : Int) by omega), wrap64_nat_succ (show i < 9223372036854775807 by omega)]
    exact ih (i + 1) (by omega) (by omega)
theorem power_ev (x n : Int) (hn : n ≤ 4611686018427387904) : Ev (fun k => impl_power.f k x n) (powW x n.toNat) := by
  unfold impl_power.f
  by_cases h : 0 ≤ n
  · obtain ⟨m, rfl⟩ : ∃ m : Nat, n = (m : Int) := ⟨n.toNat, by omega⟩
    rw [Int.toNat_natCast]
    exact power_l0 x m (by omega) m 0 (by omega) (by omega)
  · have h1 : n.toNat = 0 := by omega
    rw [h1]
    refine ev_succ ?_
    simp only [impl_power.l0, if_neg (show ¬ (0 : Int) < n by omega)]
    exact ev_now _ _ rfl
theorem syPower_l0 (x : Int) (n : Nat) (hn : n ≤ 4611686018427387904) : ∀ d (i : Nat), i ≤ n → n - i = d → Ev (fun k => spec_syPower.l0 k x ((n - i : Nat) : Int) (powW x i)) (powW x n) := by
  intro d
  induction d with
  | zero =>
    intro i hi hd
    have : i = n := by omega
    subst this
    refine ev_succ ?_
    simp only [spec_syPower.l0, Nat.sub_self, if_neg (show ¬ ((0 : Nat) : Int) > 0 by omega)]
    exact ev_now _ _ rfl
  | succ d ih =>
    intro i hi hd
    have hw : wrap64 (((n - i : Nat) : Int) - 1) = ((n - (i + 1) : Nat) : Int) := by unfold wrap64; omega
    refine ev_succ ?_
    simp only [spec_syPower.l0, if_pos (show ((n - i : Nat) : Int) > 0 by omega), hw]
    exact ih (i + 1) (by omega) (by omega)
theorem syPower_ev (x n : Int) (hn : n ≤ 4611686018427387904) : Ev (fun k => spec_syPower.f k x n) (powW x n.toNat) := by
  unfold spec_syPower.f
  by_cases h : 0 ≤ n
  · obtain ⟨m, rfl⟩ : ∃ m : Nat, n = (m : Int) := ⟨n.toNat, by omega⟩
    rw [Int.toNat_natCast]
    exact syPower_l0 x m (by omega) m 0 (by omega) (by omega)
  · have h1 : n.toNat = 0 := by omega
    rw [h1]
    refine ev_succ ?_
    simp only [spec_syPower.l0, if_neg (show ¬ n > 0 by omega)]
    exact ev_now _ _ rfl
def gbase (p q u v : Int) : Int := wrap64 (wrap64 (powW (wrap64 (u * v)) q.toNat * wrap64 (powW u (wrap64 (wrap64 (p - q) - 1)).toNat - powW v (wrap64 (wrap64 (p - q) - 1)).toNat)) * wrap64 (u - v))
def gfrom (ps o : List Int) (f t : Nat) (b : Int) (n : Nat) : Int := (List.range n).foldl (fun s (i : Nat) => if i ≠ f ∧ i ≠ t then wrap64 (s * powW (o.getD i 0) (ps.getD i 0).toNat) else s) b
def gterm (ps : List Int) (f t : Nat) (o : List Int) : Int := gfrom ps o f t (gbase (ps.getD f 0) (ps.getD t 0) (o.getD f 0) (o.getD t 0)) o.length
/-- A box that holds a row of whole numbers of the call's own; the row is not the box. -/
structure GOut (W : World) (base bo : Nat) (v : Value) (ts : List Int) : Prop where
  box : W.heap[bo]? = some (.cells #[v] 24 (0, 0))
  row : Kd.R (Kd.int .i64) 3 W base (fun k => k ≠ bo) v ts
theorem GOut.move {W W' : World} {base bo : Nat} {v : Value} {ts : List Int} (h : GOut W base bo v ts) (h1 : W'.heap[bo]? = W.heap[bo]?) (h2 : ∀ k, v.ownBlock = some k → W'.heap[k]? = W.heap[k]?) : GOut W' base bo v ts :=
  ⟨h1.trans h.box, Kd.R_mono (Kd.R_move (Kd.R_tight rfl h.row) (fun k hk => h2 k hk.symm)) (fun k hk => h.row.1 k hk.symm)⟩
theorem R_empty {w : World} {base g : Nat} {ok : Nat → Prop} (h : w.heap[g]? = some (.cells #[] 3 (0, 0))) (hb : base ≤ g) (hok : ok g) : Kd.R (Kd.int .i64) 3 w base ok (.slice (some ⟨g, 0, none⟩) 0 0) [] :=
  ⟨fun k hk => by simp [Value.ownBlock] at hk; subst hk; exact hok, [], ⟨rfl, .inr ⟨g, 0, #[], rfl, hb, h, Nat.le_refl _, by decide, rfl, rfl⟩⟩, Reps.none _ _⟩
/-- What stands while the orders are visited: a box with the terms, two boxes with powers. -/
structure GInv (base bo b1 b2 : Nat) (p q : Int) (term : List Int → Int) (vs : List (List Int)) (W : World) (own : Nat → Prop) (v : Value) : Prop where
  out : GOut W base bo v (vs.map term)
  x1 : W.heap[b1]? = some (.cells #[.int .i64 p] 3 (0, 0))
  x2 : W.heap[b2]? = some (.cells #[.int .i64 q] 3 (0, 0))
  n1 : v.ownBlock ≠ some b1
  n2 : v.ownBlock ≠ some b2
  own_iff : ∀ k, own k ↔ (k = bo ∨ v.ownBlock = some k ∨ k = b1 ∨ k = b2)
theorem GInv.lt {base bo b1 b2 : Nat} {p q : Int} {term : List Int → Int} {vs : List (List Int)} {W : World} {own : Nat → Prop} {v : Value} (h : GInv base bo b1 b2 p q term vs W own v) (k : Nat) (hk : own k) : k < W.heap.size := by
  rcases (h.own_iff k).1 hk with rfl | hk | rfl | rfl
  · exact blk_lt h.out.box
  · exact Kd.R_lt h.out.row k hk
  · exact blk_lt h.x1
  · exact blk_lt h.x2
theorem GInv.move {base bo b1 b2 : Nat} {p q : Int} {term : List Int → Int} {vs : List (List Int)} {W W' : World} {own : Nat → Prop} {v : Value} (h : GInv base bo b1 b2 p q term vs W own v) (hm : ∀ k, own k → W'.heap[k]? = W.heap[k]?) : GInv base bo b1 b2 p q term vs W' own v :=
  ⟨h.out.move (hm _ ((h.own_iff _).2 (.inl rfl))) (fun k hk => hm k ((h.own_iff _).2 (.inr (.inl hk)))), (hm _ ((h.own_iff _).2 (.inr (.inr (.inl rfl))))).trans h.x1, (hm _ ((h.own_iff _).2 (.inr (.inr (.inr rfl))))).trans h.x2, h.n1, h.n2, h.own_iff⟩
/-- A visit that appends a term. -/
theorem GInv.next {base bo b1 b2 : Nat} {p q : Int} {term : List Int → Int} {vs : List (List Int)} {W W' : World} {own : Nat → Prop} {v v' : Value} {o : List Int} (h : GInv base bo b1 b2 p q term vs W own v) (hn1 : bo ≠ b1) (hn2 : bo ≠ b2)
    (g : GOut W' base bo v' (vs.map term ++ [term o])) (hk : Kept W W' (fun k => k = bo ∨ v.ownBlock = some k)) (hv : ∀ k, v'.ownBlock = some k → v.ownBlock = some k ∨ W.heap.size ≤ k) :
    ∃ own', GInv base bo b1 b2 p q term (vs ++ [o]) W' own' v' ∧ Kept W W' own ∧ ∀ k, own' k → own k ∨ W.heap.size ≤ k := by
  have l1 := blk_lt h.x1
  have l2 := blk_lt h.x2
  refine ⟨fun k => k = bo ∨ v'.ownBlock = some k ∨ k = b1 ∨ k = b2, ⟨?_, ?_, ?_, ?_, ?_, fun k => Iff.rfl⟩, hk.mono (fun k hk => (h.own_iff k).2 (by rcases hk with hk | hk; exact .inl hk; exact .inr (.inl hk))), fun k hk => ?_⟩
  · rw [List.map_append]; exact g
  · exact blk_kept h.x1 hk (fun hh => by rcases hh with hh | hh; exact hn1 hh.symm; exact h.n1 hh)
  · exact blk_kept h.x2 hk (fun hh => by rcases hh with hh | hh; exact hn2 hh.symm; exact h.n2 hh)
  · intro hh; rcases hv _ hh with hh | hh; exact h.n1 hh; omega
  · intro hh; rcases hv _ hh with hh | hh; exact h.n2 hh; omega
  · rcases hk with hk | hk | hk | hk
    · exact .inl ((h.own_iff k).2 (.inl hk))
    · rcases hv _ hk with hh | hh
      · exact .inl ((h.own_iff k).2 (.inr (.inl hh)))
      · exact .inr hh
    · exact .inl ((h.own_iff k).2 (.inr (.inr (.inl hk))))
    · exact .inl ((h.own_iff k).2 (.inr (.inr (.inr hk))))
theorem gfrom_succ (ps o : List Int) (f t : Nat) (b : Int) (n : Nat) : gfrom ps o f t b (n + 1) = if n ≠ f ∧ n ≠ t then wrap64 (gfrom ps o f t b n * powW (o.getD n 0) (ps.getD n 0).toNat) else gfrom ps o f t b n := by
  unfold gfrom; rw [List.range_succ, List.foldl_append]; rfl
set_option maxHeartbeats 4000000 in
set_option maxRecDepth 100000 in
theorem gift_term (w0 W : World) (ps o : List Int) (Ap Ao : Option Addr) (cp co : Nat) (f t : Nat) (am : Int) (bg bq bp bs bo : Nat) (ts : List Int)
    (hps : Kd.C (Kd.int .i64) w0 Ap ps.length ps) (hcp : ps.length ≤ cp) (ho : Kd.C (Kd.int .i64) W Ao o.length o) (hco : o.length ≤ co) (hl : o.length = ps.length) (hl8 : ps.length ≤ 8) (hf : f < ps.length) (ht : t < ps.length) (hsm : ∀ i, ps.getD i 0 ≤ 1000) (hsn : ∀ i, 0 ≤ ps.getD i 0)
    (hbg : W.heap[bg]? = some (.cells #[.int .i64 (f : Int), .int .i64 (t : Int), .int .i64 am] 52 (0, 0))) (hbq : W.heap[bq]? = some (.cells #[.int .i64 (ps.getD t 0)] 3 (0, 0))) (hbp : W.heap[bp]? = some (.cells #[.int .i64 (ps.getD f 0)] 3 (0, 0)))
    (hbs : W.heap[bs]? = some (.cells #[.slice Ap ps.length cp] 24 (0, 0))) (vo : Value) (hbo : GOut W w0.heap.size bo vo ts) (hB : Below w0.heap.size w0 W) (hb0 : w0.heap.size ≤ bo) (hts : (ts.length + 1) * 8 ≤ 140737488355328) :
    Calls Try.prog 136 #[.slice Ao o.length co, .pointer (some ⟨bg, 0, none⟩), .pointer (some ⟨bq, 0, none⟩), .pointer (some ⟨bp, 0, none⟩), .pointer (some ⟨bs, 0, none⟩), .pointer (some ⟨bo, 0, none⟩)] W fun e W' => e = .returned (.tuple #[]) ∧ ∃ v', GOut W' w0.heap.size bo v' (ts ++ [gterm ps f t o]) ∧ Below w0.heap.size w0 W' ∧ Kept W W' (fun k => k = bo ∨ vo.ownBlock = some k) ∧ ∀ k, v'.ownBlock = some k → vo.ownBlock = some k ∨ W.heap.size ≤ k := by
  have cg0 : W.cell? ⟨bg, 0, none⟩ = some (.int .i64 (f : Int)) := (blk_cell hbg 0).trans rfl
  have cg1 : W.cell? ⟨bg, 1, none⟩ = some (.int .i64 (t : Int)) := (blk_cell hbg 1).trans rfl
  have cq : W.cell? ⟨bq, 0, none⟩ = some (.int .i64 (ps.getD t 0)) := (blk_cell hbq 0).trans rfl
  have cp_ : W.cell? ⟨bp, 0, none⟩ = some (.int .i64 (ps.getD f 0)) := (blk_cell hbp 0).trans rfl
  have cs_ : W.cell? ⟨bs, 0, none⟩ = some (.slice Ap ps.length cp) := (blk_cell hbs 0).trans rfl
  have hfz : (0 : Int) ≤ (f : Int) := by omega
  have htz : (0 : Int) ≤ (t : Int) := by omega
  have hfl : (f : Int) < (o.length : Int) := by omega
  have htl : (t : Int) < (o.length : Int) := by omega
  have hps1 := Kd.C_below hps hB
  obtain ⟨Avo, cvo, rfl⟩ := Kd.R_slice hbo.row
  obtain ⟨ads, rfl, _⟩ := Kd.at_int hps1 (f : Int) hfz (by omega)
  obtain ⟨ad, rfl, cu⟩ := Kd.at_int ho (f : Int) hfz hfl
  obtain ⟨ad', e_, cv⟩ := Kd.at_int ho (t : Int) htz htl
  injection e_ with e_
  subst e_
  rw [Int.toNat_natCast, rd_nat_getD] at cu cv
  obtain ⟨u, hu⟩ : ∃ u, o.getD f 0 = u := ⟨_, rfl⟩
  obtain ⟨v, hv⟩ : ∃ v, o.getD t 0 = v := ⟨_, rfl⟩
  obtain ⟨p, hp⟩ : ∃ p, ps.getD f 0 = p := ⟨_, rfl⟩
  obtain ⟨q, hq⟩ : ∃ q, ps.getD t 0 = q := ⟨_, rfl⟩
  rw [hu] at cu
  rw [hv] at cv
  rw [hp] at cp_
  rw [hq] at cq
  have HU := Aside0.mk hu
  have HV := Aside0.mk hv
  have HPp := Aside0.mk hp
  have HQ := Aside0.mk hq
  have HBG := Aside0.mk hbg
  have HBQ := Aside0.mk hbq
  have HBP := Aside0.mk hbp
  have HBS := Aside0.mk hbs
  have HBO := Aside0.mk hbo
  have HO := Aside0.mk ho
  have HPS := Aside0.mk hps1
  have HB := Aside0.mk hB
  have HL := Aside0.mk hl
  have HTS := Aside0.mk hts
  have HB0 := Aside0.mk hb0
  have HSM := Aside0.mk hsm
  have HSN := Aside0.mk hsn
  obtain ⟨k1, e1⟩ := (power_ev (wrap64 (u * v)) q (by have := hsm t; omega)).rounds
  obtain ⟨k2, e2⟩ := (power_ev u (wrap64 (wrap64 (p - q) - 1)) (by have := hsm t; have := hsm f; have := hsn t; have := hsn f; unfold wrap64; omega)).rounds
  obtain ⟨k3, e3⟩ := (power_ev v (wrap64 (wrap64 (p - q) - 1)) (by have := hsm t; have := hsm f; have := hsn t; have := hsn f; unfold wrap64; omega)).rounds
  have E1 := Aside0.mk e1
  have E2 := Aside0.mk e2
  have E3 := Aside0.mk e3
  have hl8' : ps.length ≤ 8 := hl8
  have hlo : o.length ≤ 8 := by omega
  clear hu hv hp hq hbg hbq hbp hbs hbo hsm hsn e1 e2 e3 ho hps hps1 hB hl hts hb0
  go_enter Try.func136, Try.ntmps136
  go_wp2_with fail
  go_quiet (fail)
  go_wp2_with fail
  go_quiet (first | (go_at_call 137; (with_reducible refine (impl_power.calls k1 (wrap64 (u * v)) q _ _ E1.out).mono ?_); rintro e w' ⟨rfl, ⟨nd, rfl⟩⟩; (try first | exact ⟨rfl, _, World.drewN_drewN _ _ _⟩ | exact ⟨rfl, _, Eq.trans (World.drewN_drewN _ _ _) (congrArg (World.drewN _) (Nat.add_assoc _ _ _))⟩)) | (go_at_call 137; (with_reducible refine (impl_power.calls k2 u (wrap64 (wrap64 (p - q) - 1)) _ _ E2.out).mono ?_); rintro e w' ⟨rfl, ⟨nd, rfl⟩⟩; (try first | exact ⟨rfl, _, World.drewN_drewN _ _ _⟩ | exact ⟨rfl, _, Eq.trans (World.drewN_drewN _ _ _) (congrArg (World.drewN _) (Nat.add_assoc _ _ _))⟩)) | (go_at_call 137; (with_reducible refine (impl_power.calls k3 v (wrap64 (wrap64 (p - q) - 1)) _ _ E3.out).mono ?_); rintro e w' ⟨rfl, ⟨nd, rfl⟩⟩; (try first | exact ⟨rfl, _, World.drewN_drewN _ _ _⟩ | exact ⟨rfl, _, Eq.trans (World.drewN_drewN _ _ _) (congrArg (World.drewN _) (Nat.add_assoc _ _ _))⟩)))
  go_wp2_with fail
  go_loopg [9, 10, 11, 47] o.length (fun gg s9 _ _ s47 W' => ∃ i : Nat, s9 = .int .i64 (gfrom ps o f t (gbase p q u v) i) ∧ s47 = .int .i64 (i : Int) ∧ i ≤ o.length ∧ o.length - i ≤ gg ∧ Aside0 (∃ nd, W' = W.drewN nd))
  case atStart => exact ⟨0, rfl, rfl, Nat.zero_le _, by omega, ⟨⟨_, rfl⟩⟩⟩
  case round =>
    obtain ⟨i, rfl, rfl, hi, hgg, ⟨nd, rfl⟩⟩ := hrel
    by_cases hlt : i < o.length
    · have hltz : (i : Int) < (o.length : Int) := by omega
      have hlts : (i : Int) < (ps.length : Int) := by have := HL.out; omega
      have hiz : (0 : Int) ≤ (i : Int) := by omega
      obtain ⟨ad', e_, cx⟩ := Kd.at_int HO.out (i : Int) hiz hltz
      injection e_ with e_
      subst e_
      obtain ⟨ads', e_, cn⟩ := Kd.at_int HPS.out (i : Int) hiz hlts
      injection e_ with e_
      subst e_
      rw [Int.toNat_natCast, rd_nat_getD] at cx cn
      obtain ⟨x, hx⟩ : ∃ x, o.getD i 0 = x := ⟨_, rfl⟩
      obtain ⟨n, hn⟩ : ∃ n, ps.getD i 0 = n := ⟨_, rfl⟩
      rw [hx] at cx
      rw [hn] at cn
      obtain ⟨kp, ep⟩ := (power_ev x n (by have := HSM.out i; omega)).rounds
      have EP := Aside0.mk ep
      have HX := Aside0.mk hx
      have HN := Aside0.mk hn
      clear ep hx hn
      by_cases hif : i = f
      · subst hif
        go_wp2
        go_roundg (o.length - (i + 1))
        case measure => omega
        case rel => exact ⟨i + 1, by rw [gfrom_succ, if_neg (fun h => h.1 rfl)], by go_num, by omega, by omega, ⟨⟨_, rfl⟩⟩⟩
      · have hne : ((i : Int) != (f : Int)) = true := by simp; omega
        by_cases hit : i = t
        · subst hit
          go_wp2
          go_roundg (o.length - (i + 1))
          case measure => omega
          case rel => exact ⟨i + 1, by rw [gfrom_succ, if_neg (fun h => h.2 rfl)], by go_num, by omega, by omega, ⟨⟨_, rfl⟩⟩⟩
        · have hne2 : ((i : Int) != (t : Int)) = true := by simp; omega
          obtain ⟨g, hg⟩ : ∃ g, gfrom ps o f t (gbase p q u v) i = g := ⟨_, rfl⟩
          have HG := Aside0.mk (show gfrom ps o f t (gbase p q u v) (i + 1) = wrap64 (g * powW x n.toNat) from by rw [gfrom_succ, if_pos ⟨hif, hit⟩, HX.out, HN.out, hg])
          have HIF := Aside0.mk hif
          have HIT := Aside0.mk hit
          clear hif hit
          rw [hg]
          clear hg
          go_wp2_with (first | (go_at_call 137; (with_reducible refine (impl_power.calls kp x n _ _ EP.out).mono ?_); rintro e w' ⟨rfl, ⟨nd, rfl⟩⟩))
          go_roundg (o.length - (i + 1))
          case measure => omega
          case rel => exact ⟨i + 1, by rw [HG.out], by go_num, by omega, by omega, ⟨⟨_, by first | rfl | exact World.drewN_drewN _ _ _⟩⟩⟩
    · have hltz : ¬ (i : Int) < (o.length : Int) := by omega
      have hie : i = o.length := by omega
      subst hie
      obtain ⟨z, hz⟩ : ∃ z, gfrom ps o f t (gbase p q u v) o.length = z := ⟨_, rfl⟩
      have HZ := Aside0.mk (show gterm ps f t o = z from by unfold gterm; rw [HU.out, HV.out, HPp.out, HQ.out]; exact hz)
      rw [hz]
      clear hz
      have cbo : W.cell? ⟨bo, 0, none⟩ = some (.slice Avo ts.length cvo) := (blk_cell HBO.out.box 0).trans rfl
      go_wp2_with (first | ((with_reducible refine gate_builtin (b := .append) (xs := #[.tmp 71, .tmp 73]) rfl ?_); at_builtin; refine Kd.R_append (Kd.int .i64) (w0 := w0) w0.heap.size rfl (.tmp 71) (.tmp 73) 24 3 (.int .i64 0) 8 rfl Try.underlying24 info3 rfl (by decide) (by omega) (.slice Avo ts.length cvo) ts z [.int .i64 z] (fun k => k ≠ bo) (fun _ => False) rfl rfl ?aP (fun _ hk => hk.elim) ?aF ?aO ?aB ?aS ?aL ?_; (case aP => exact rfl); (case aB => exact pw_below_drewN HB.out _); (case aF => intro k hk; have h1_ := blk_lt HBO.out.box; have h2_ : W.heap.size ≤ k := hk; omega); (case aO => exact Kd.R_drewN HBO.out.row _); (case aS => exact HB.out.size); (case aL => exact HTS.out); intro v8 w8 ho hb hg hat; obtain ⟨A8, c8, e8⟩ := Kd.R_slice ho; subst e8; have HO8 := Aside0.mk ho; have HB8 := Aside0.mk hb; have HG8 := Aside0.mk hg; have HA8 := Aside0.mk hat; clear ho hb hg hat; apply StopI))
      have hb8 : w8.heap[bo]? = some (.cells #[.slice Avo ts.length cvo] 24 (0, 0)) := blk_grown (w := W.drewN nd) HBO.out.box HG8.out (fun h => HBO.out.row.1 bo h.symm rfl)
      have B8 := Aside0.mk hb8
      have cb8 : w8.cell? ⟨bo, 0, none⟩ = some (.slice Avo ts.length cvo) := (blk_cell hb8 0).trans rfl
      have fb8 := blk_frozen hb8 0
      clear hb8
      unfold Stop
      go_wp2_with ((with_reducible refine gate_store (t := 24) (p := 5) rfl ?_); refine store_event (t := 24) (p := 5) (v := ?vst) (w1 := w8.setCell ⟨bo, 0, none⟩ (.slice A8 (ts ++ [z]).length c8)) ?hg ?ho ?hn ?hr ?_; (case ho => rfl); (case hg => rfl); (case hn => rfl); (case hr => first | (go_simp; done) | (go_simp; rfl)); intro w9 hw; have HW := Aside0.mk hw; clear hw)
      go_end0
      refine ⟨rfl, _, ⟨by rw [HW.out]; exact blk_put B8.out 0 _ rfl, by rw [HW.out, HZ.out]; exact Kd.R_far HO8.out (fun k hk => hk) _⟩, by rw [HW.out]; exact below_set HB8.out HB0.out, ?_, ?_⟩
      · rw [HW.out]
        exact (Kept.of_grown HG8.out ((Kept.refl W _).drewN nd) (fun k hk => .inl (.inr hk))).setCell (.inl (.inl rfl)) _
      · intro k hk
        rcases HA8.out with h | ⟨b, h, hle⟩
        · exact .inl (h ▸ hk)
        · rw [h] at hk
          injection hk with hk
          exact .inr (hk ▸ hle)

def impl_GiftTerms.bad (k : Nat) (l0 : List Int) (g0 g1 g2 : Int) (l2 : List Int) : Option Bool :=
 (impl_arePowers.f k l0).bind fun t1 => if t1 = true then ((impl_areArguments.f k l2).bind fun t2 => if t2 = true then (if l0.length = l2.length then (if g2 = 1 then ((impl_isKind.f l0 g0 g1 g2).bind fun t3 => some (!t3)) else some true) else some true) else some true) else some true
def impl_GiftTerms.ok (l0 : List Int) (g0 g1 : Int) (l2 : List Int) : Prop := 0 ≤ g0 ∧ g0 < (l0.length : Int) ∧ 0 ≤ g1 ∧ g1 < (l0.length : Int) ∧ l0.length = l2.length ∧ l0.length ≤ 8 ∧ (∀ x ∈ l0, 0 ≤ x ∧ x ≤ 1000) ∧ (exts l2 l2.length 0 []).length ≤ 1000000
instance impl_GiftTerms.okDec (l0 : List Int) (g0 g1 : Int) (l2 : List Int) : Decidable (impl_GiftTerms.ok l0 g0 g1 l2) := by unfold impl_GiftTerms.ok; infer_instance
def impl_GiftTerms.f (k : Nat) (l0 : List Int) (g0 g1 g2 : Int) (l2 : List Int) : Option (List Int × Bool) :=
 (impl_GiftTerms.bad k l0 g0 g1 g2 l2).bind fun b => if b = true then some ([], false) else (if impl_GiftTerms.ok l0 g0 g1 l2 then some ((exts l2 l2.length 0 []).map (gterm l0 g0.toNat g1.toNat), true) else none)
theorem impl_GiftTerms.mono : ∀ a0 a1 a2 a3 a4 k, LeO (impl_GiftTerms.f k a0 a1 a2 a3 a4) (impl_GiftTerms.f (k + 1) a0 a1 a2 a3 a4) := by
 intro a0 a1 a2 a3 a4 k
 unfold impl_GiftTerms.f impl_GiftTerms.bad
 repeat' first
  | (with_reducible exact impl_arePowers.mono _ _)
  | (with_reducible exact impl_areArguments.mono _ _)
  | (with_reducible exact LeO.refl _)
  | (with_reducible exact LeO.none _)
  | (with_reducible refine LeO.ite ?_ ?_)
  | (with_reducible refine LeO.bind ?_ (fun _ => ?_))
set_option maxHeartbeats 4000000 in
set_option maxRecDepth 100000 in
theorem impl_GiftTerms.calls (k : Nat) (A0 : Option Addr) (c0 : Nat) (l0 : List Int) (g0 g1 g2 : Int) (A2 : Option Addr) (c2 : Nat) (l2 : List Int) (r1 : List Int) (r2 : Bool) (w : World) (hr0 : Kd.C (Kd.int .i64) w A0 l0.length l0) (hc0 : l0.length ≤ c0) (hr2 : Kd.C (Kd.int .i64) w A2 l2.length l2) (hc2 : l2.length ≤ c2) (h : impl_GiftTerms.f k l0 g0 g1 g2 l2 = some (r1, r2)) :
  Calls Try.prog 44 #[.slice A0 l0.length c0, .agg #[.int .i64 g0, .int .i64 g1, .int .i64 g2], .slice A2 l2.length c2] w fun e w' => ∃ v0_ : Value, e = .returned (.tuple #[v0_, .bool r2]) ∧ Kd.R (Kd.int .i64) 3 w' w.heap.size (fun _ => True) v0_ r1 ∧ Below w.heap.size w w' := by
 have hu52 := Try.underlying52
 have HR0 := Aside0.mk hr0
 have HC0 := Aside0.mk hc0
 have HR2 := Aside0.mk hr2
 have HC2 := Aside0.mk hc2
 have HH := Aside0.mk h
 clear hr0 hc0 hr2 hc2 h
 go_enter Try.func44, Try.ntmps44
 go_wp2_with ((with_reducible refine gate_dst (N := 3) rfl ?_); refine box_event ?hg (N := 3) ?hd (cs := #[.slice A0 l0.length c0]) (t := 24) ?hr ?_; (case hd => rfl); (case hg => rfl); (case hr => first | (go_simp; done) | (go_simp; rfl)); intro bp hg_ wp hx_ hb_; have Ebp := Aside0.mk hg_; have Bbp := Aside0.mk hx_; have Kbp := Aside0.mk hb_; clear hg_ hx_ hb_; apply StopI)
 unfold Stop
 go_wp2_with ((with_reducible refine gate_dst (N := 4) rfl ?_); refine box_event ?hg (N := 4) ?hd (cs := #[.int .i64 g0, .int .i64 g1, .int .i64 g2]) (t := 52) ?hr ?_; (case hd => rfl); (case hg => rfl); (case hr => first | (go_simp; done) | (go_simp; rfl)); intro bg hg_ wg hx_ hb_; have Ebg := Aside0.mk hg_; have Bbg := Aside0.mk hx_; have Kbg := Aside0.mk hb_; clear hg_ hx_ hb_; apply StopI)
 have KW := Aside0.mk (below_step Kbp.out Kbg.out)
 have gp := Aside0.mk (show bp = w.heap.size from Ebp.out)
 have gg := Aside0.mk (show bg = wp.heap.size from Ebg.out)
 have lp := Aside0.mk (blk_lt Bbp.out)
 have BP := Aside0.mk ((Kbg.out.block bp lp.out).trans Bbp.out)
 have cp : wg.cell? ⟨bp, 0, none⟩ = some (.slice A0 l0.length c0) := (blk_cell BP.out 0).trans rfl
 have cg0 : wg.cell? ⟨bg, 0, none⟩ = some (.int .i64 g0) := (blk_cell Bbg.out 0).trans rfl
 have cg1 : wg.cell? ⟨bg, 1, none⟩ = some (.int .i64 g1) := (blk_cell Bbg.out 1).trans rfl
 have cg2 : wg.cell? ⟨bg, 2, none⟩ = some (.int .i64 g2) := (blk_cell Bbg.out 2).trans rfl
 have H := HH.out
 clear HH
 unfold impl_GiftTerms.f at H
 obtain ⟨b, hb, n_⟩ := Option.bind_eq_some_iff.mp H
 clear H
 have H := n_
 clear n_
 unfold impl_GiftTerms.bad at hb
 obtain ⟨t1, h1, n_⟩ := Option.bind_eq_some_iff.mp hb
 clear hb
 have hb := n_
 clear n_
 have H1 := Aside0.mk h1
 clear h1
 have FAIL : b = true → Aside0 (r1 = [] ∧ r2 = false) := fun e => by
  rw [if_pos e] at H
  injection H with H
  injection H with e1 e2
  exact ⟨e1.symm, e2.symm⟩
 cases t1 with
 | false =>
  rw [if_neg (by decide)] at hb
  injection hb with hb
  obtain ⟨rfl, rfl⟩ := (FAIL hb.symm).out
  clear H hb FAIL
  unfold Stop
  go_wp2_with (go_at_call 132; (with_reducible refine (impl_arePowers.calls k _ _ l0 false _ ?s1 HC0.out H1.out).mono ?_); (case s1 => (repeat (first | exact (Kd.C_below HR0.out KW.out) | (with_reducible refine Kd.C_alloc ?_ _) | (with_reducible refine Kd.C_drewN ?_ _) | (with_reducible refine Kd.C_drew ?_)))); rintro e w' ⟨rfl, ⟨nd, rfl⟩⟩; (try first | exact ⟨rfl, _, World.drewN_drewN _ _ _⟩ | exact ⟨rfl, _, Eq.trans (World.drewN_drewN _ _ _) (congrArg (World.drewN _) (Nat.add_assoc _ _ _))⟩))
  go_ret2
  exact ⟨_, rfl, Kd.R_nil _ _ _ _ _, (by repeat (first | (with_reducible first | exact KW.out | apply below_alloc | apply pw_below_drewN | apply below_drew1) | exact KW.out))⟩
 | true =>
  rw [if_pos rfl] at hb
  obtain ⟨t2, h2, n_⟩ := Option.bind_eq_some_iff.mp hb
  clear hb
  have hb := n_
  clear n_
  have H2 := Aside0.mk h2
  clear h2
  cases t2 with
  | false =>
   rw [if_neg (by decide)] at hb
   injection hb with hb
   obtain ⟨rfl, rfl⟩ := (FAIL hb.symm).out
   clear H hb FAIL
   unfold Stop
   go_wp2_with (first | (go_at_call 132; (with_reducible refine (impl_arePowers.calls k _ _ l0 true _ ?s1 HC0.out H1.out).mono ?_); (case s1 => (repeat (first | exact (Kd.C_below HR0.out KW.out) | (with_reducible refine Kd.C_alloc ?_ _) | (with_reducible refine Kd.C_drewN ?_ _) | (with_reducible refine Kd.C_drew ?_)))); rintro e w' ⟨rfl, ⟨nd, rfl⟩⟩; (try first | exact ⟨rfl, _, World.drewN_drewN _ _ _⟩ | exact ⟨rfl, _, Eq.trans (World.drewN_drewN _ _ _) (congrArg (World.drewN _) (Nat.add_assoc _ _ _))⟩)) | (go_at_call 133; (with_reducible refine (impl_areArguments.calls k _ _ l2 false _ ?s2 HC2.out H2.out).mono ?_); (case s2 => (repeat (first | exact (Kd.C_below HR2.out KW.out) | (with_reducible refine Kd.C_alloc ?_ _) | (with_reducible refine Kd.C_drewN ?_ _) | (with_reducible refine Kd.C_drew ?_)))); rintro e w' ⟨rfl, ⟨nd, rfl⟩⟩; (try first | exact ⟨rfl, _, World.drewN_drewN _ _ _⟩ | exact ⟨rfl, _, Eq.trans (World.drewN_drewN _ _ _) (congrArg (World.drewN _) (Nat.add_assoc _ _ _))⟩)))
   go_ret2
   exact ⟨_, rfl, Kd.R_nil _ _ _ _ _, (by repeat (first | (with_reducible first | exact KW.out | apply below_alloc | apply pw_below_drewN | apply below_drew1) | exact KW.out))⟩
  | true =>
   rw [if_pos rfl] at hb
   by_cases hl : l0.length = l2.length
   ·rw [if_pos hl] at hb
    by_cases h3 : g2 = 1
    ·rw [if_pos h3] at hb
     subst h3
     obtain ⟨t3, h4, n_⟩ := Option.bind_eq_some_iff.mp hb
     clear hb
     have hb := n_
     clear n_
     have H4 := Aside0.mk h4
     clear h4
     injection hb with hb
     have hlb : ((l0.length : Int) != (l2.length : Int)) = false := by rw [hl]; simp
     cases t3 with
     | false =>
      obtain ⟨rfl, rfl⟩ := (FAIL hb.symm).out
      clear H hb FAIL hl
      unfold Stop
      go_wp2_with (first | (go_at_call 132; (with_reducible refine (impl_arePowers.calls k _ _ l0 true _ ?s1 HC0.out H1.out).mono ?_); (case s1 => (repeat (first | exact (Kd.C_below HR0.out KW.out) | (with_reducible refine Kd.C_alloc ?_ _) | (with_reducible refine Kd.C_drewN ?_ _) | (with_reducible refine Kd.C_drew ?_)))); rintro e w' ⟨rfl, ⟨nd, rfl⟩⟩; (try first | exact ⟨rfl, _, World.drewN_drewN _ _ _⟩ | exact ⟨rfl, _, Eq.trans (World.drewN_drewN _ _ _) (congrArg (World.drewN _) (Nat.add_assoc _ _ _))⟩)) | (go_at_call 133; (with_reducible refine (impl_areArguments.calls k _ _ l2 true _ ?s2 HC2.out H2.out).mono ?_); (case s2 => (repeat (first | exact (Kd.C_below HR2.out KW.out) | (with_reducible refine Kd.C_alloc ?_ _) | (with_reducible refine Kd.C_drewN ?_ _) | (with_reducible refine Kd.C_drew ?_)))); rintro e w' ⟨rfl, ⟨nd, rfl⟩⟩; (try first | exact ⟨rfl, _, World.drewN_drewN _ _ _⟩ | exact ⟨rfl, _, Eq.trans (World.drewN_drewN _ _ _) (congrArg (World.drewN _) (Nat.add_assoc _ _ _))⟩)) | (go_at_call 134; (with_reducible refine (impl_isKind.calls _ _ l0 g0 g1 1 false _ ?s3 HC0.out H4.out).mono ?_); (case s3 => (repeat (first | exact (Kd.C_below HR0.out KW.out) | (with_reducible refine Kd.C_alloc ?_ _) | (with_reducible refine Kd.C_drewN ?_ _) | (with_reducible refine Kd.C_drew ?_)))); rintro e w3 ⟨rfl, hb_⟩; have hb3 := Aside0.mk (below_then (pw_below_drewN (Below.refl wg.heap.size wg) _) (Nat.le_refl _) hb_ : Below wg.heap.size wg w3); clear hb_))
      go_ret2
      exact ⟨_, rfl, Kd.R_nil _ _ _ _ _, below_step KW.out hb3.out⟩
     | true =>
      have e_ : b = false := by simpa using hb.symm
      rw [e_, if_neg (by decide)] at H
      by_cases hok : impl_GiftTerms.ok l0 g0 g1 l2
      ·rw [if_pos hok] at H
       injection H with H
       injection H with er1 er2
       subst er2
       have ER := Aside0.mk er1
       unfold impl_GiftTerms.ok at hok
       obtain ⟨k1, k2, k3, k4, k5, k6, k7, k8⟩ := hok
       obtain ⟨f, rfl⟩ : ∃ f : Nat, g0 = (f : Int) := ⟨g0.toNat, by omega⟩
       obtain ⟨t, rfl⟩ : ∃ t : Nat, g1 = (t : Int) := ⟨g1.toNat, by omega⟩
       obtain ⟨ad, rfl, _⟩ := Kd.at_int HR0.out (f : Int) k1 k2
       have K7 := Aside0.mk k7
       have K8 := Aside0.mk k8
       have HL := Aside0.mk hl
       clear er1 k7 k8 hl k5 e_ hb FAIL
       unfold Stop
       go_wp2_with (first | (go_at_call 132; (with_reducible refine (impl_arePowers.calls k _ _ l0 true _ ?s1 HC0.out H1.out).mono ?_); (case s1 => (repeat (first | exact (Kd.C_below HR0.out KW.out) | (with_reducible refine Kd.C_alloc ?_ _) | (with_reducible refine Kd.C_drewN ?_ _) | (with_reducible refine Kd.C_drew ?_)))); rintro e w' ⟨rfl, ⟨nd, rfl⟩⟩; (try first | exact ⟨rfl, _, World.drewN_drewN _ _ _⟩ | exact ⟨rfl, _, Eq.trans (World.drewN_drewN _ _ _) (congrArg (World.drewN _) (Nat.add_assoc _ _ _))⟩)) | (go_at_call 133; (with_reducible refine (impl_areArguments.calls k _ _ l2 true _ ?s2 HC2.out H2.out).mono ?_); (case s2 => (repeat (first | exact (Kd.C_below HR2.out KW.out) | (with_reducible refine Kd.C_alloc ?_ _) | (with_reducible refine Kd.C_drewN ?_ _) | (with_reducible refine Kd.C_drew ?_)))); rintro e w' ⟨rfl, ⟨nd, rfl⟩⟩; (try first | exact ⟨rfl, _, World.drewN_drewN _ _ _⟩ | exact ⟨rfl, _, Eq.trans (World.drewN_drewN _ _ _) (congrArg (World.drewN _) (Nat.add_assoc _ _ _))⟩)) | (go_at_call 134; (with_reducible refine (impl_isKind.calls _ _ l0 (f : Int) (t : Int) 1 true _ ?s3 HC0.out H4.out).mono ?_); (case s3 => (repeat (first | exact (Kd.C_below HR0.out KW.out) | (with_reducible refine Kd.C_alloc ?_ _) | (with_reducible refine Kd.C_drewN ?_ _) | (with_reducible refine Kd.C_drew ?_)))); rintro e w3 ⟨rfl, hb_⟩; have hb3 := Aside0.mk (below_then (pw_below_drewN (Below.refl wg.heap.size wg) _) (Nat.le_refl _) hb_ : Below wg.heap.size wg w3); clear hb_; apply StopI))
       have cp3 : w3.cell? ⟨bp, 0, none⟩ = some (.slice (some ad) l0.length c0) := (blk_cell (blk_below BP.out hb3.out) 0).trans rfl
       have cg03 : w3.cell? ⟨bg, 0, none⟩ = some (.int .i64 (f : Int)) := (blk_cell (blk_below Bbg.out hb3.out) 0).trans rfl
       have cg13 : w3.cell? ⟨bg, 1, none⟩ = some (.int .i64 (t : Int)) := (blk_cell (blk_below Bbg.out hb3.out) 1).trans rfl
       have KW3 := Aside0.mk (below_step KW.out hb3.out)
       obtain ⟨ad', e_, cf⟩ := Kd.at_int (Kd.C_below HR0.out KW3.out) (f : Int) k1 k2
       injection e_ with e_
       subst e_
       obtain ⟨ad', e_, ct⟩ := Kd.at_int (Kd.C_below HR0.out KW3.out) (t : Int) k3 k4
       injection e_ with e_
       subst e_
       rw [Int.toNat_natCast, rd_nat_getD] at cf ct
       obtain ⟨p, hp⟩ : ∃ p, l0.getD f 0 = p := ⟨_, rfl⟩
       obtain ⟨q, hq⟩ : ∃ q, l0.getD t 0 = q := ⟨_, rfl⟩
       rw [hp] at cf
       rw [hq] at ct
       have HP := Aside0.mk hp
       have HQ := Aside0.mk hq
       clear hp hq
       have KEEP := Aside0.mk (show ∀ w', Below w3.heap.size w3 w' → w'.cell? ⟨bp, 0, none⟩ = some (.slice (some ad) l0.length c0) ∧ w'.cell? ⟨bg, 0, none⟩ = some (.int .i64 (f : Int)) ∧ w'.cell? ⟨bg, 1, none⟩ = some (.int .i64 (t : Int)) ∧ w'.cell? (ad.add f) = some (.int .i64 p) ∧ w'.cell? (ad.add t) = some (.int .i64 q) from fun w' hb_ => ⟨pw_cell_below hb_ cp3, pw_cell_below hb_ cg03, pw_cell_below hb_ cg13, pw_cell_below hb_ cf, pw_cell_below hb_ ct⟩)
       unfold Stop
       go_upto_region 3 with (fail)
       go_cut [8, 9, 10] from 37 to 48 (fun v8 v9 v10 wx => ∃ (bo b1 b2 : Nat) (A : Option Addr) (c : Nat), v8 = .pointer (some ⟨bo, 0, none⟩) ∧ v9 = .pointer (some ⟨b1, 0, none⟩) ∧ v10 = .pointer (some ⟨b2, 0, none⟩) ∧ Aside0 (GOut wx w3.heap.size bo (.slice A 0 c) []) ∧ Aside0 (wx.heap[b1]? = some (.cells #[.int .i64 p] 3 (0, 0))) ∧ Aside0 (wx.heap[b2]? = some (.cells #[.int .i64 q] 3 (0, 0))) ∧ Aside0 (Below w3.heap.size w3 wx) ∧ Aside0 (w3.heap.size ≤ bo) ∧ Aside0 (w3.heap.size ≤ b1) ∧ Aside0 (w3.heap.size ≤ b2) ∧ Aside0 ((Value.slice A 0 c).ownBlock ≠ some b1) ∧ Aside0 ((Value.slice A 0 c).ownBlock ≠ some b2))
       case first =>
        go_region_held3 (fun w' => w'.cell? ⟨bp, 0, none⟩ = some (.slice (some ad) l0.length c0) ∧ w'.cell? ⟨bg, 0, none⟩ = some (.int .i64 (f : Int)) ∧ w'.cell? ⟨bg, 1, none⟩ = some (.int .i64 (t : Int)) ∧ w'.cell? (ad.add f) = some (.int .i64 p) ∧ w'.cell? (ad.add t) = some (.int .i64 q)) ((refine KEEP.out _ ?_; repeat (first | exact Below.refl _ _ | apply below_alloc | apply below_drew1 | apply pw_below_drewN | refine below_set ?_ (by first | exact Nat.le_refl _ | exact Nat.le_add_right _ _ | (simp; done) | (simp; omega))))) (fail)
        all_goals (go_wp2_with fail; go_meet; (case rel => exact ⟨_, _, _, _, _, rfl, rfl, rfl, ⟨⟨by repeat (first | exact blk_newE (by simp only [size_alloc, size_drew]) | refine blk_drew ?_ | refine blk_alloc ?_ _), R_empty (by repeat (first | exact blk_newE (by simp only [size_alloc, size_drew]) | refine blk_drew ?_ | refine blk_alloc ?_ _)) (by first | exact Nat.le_refl _ | omega) (by intro h_; (try simp only [] at h_); omega)⟩⟩, ⟨by repeat (first | exact blk_newE (by simp only [size_alloc, size_drew]) | refine blk_drew ?_ | refine blk_alloc ?_ _)⟩, ⟨by repeat (first | exact blk_newE (by simp only [size_alloc, size_drew]) | refine blk_drew ?_ | refine blk_alloc ?_ _)⟩, ⟨by repeat (first | exact Below.refl _ _ | apply below_alloc | apply below_drew1 | apply pw_below_drewN)⟩, ⟨by first | exact Nat.le_refl _ | omega⟩, ⟨by first | exact Nat.le_refl _ | omega⟩, ⟨by first | exact Nat.le_refl _ | omega⟩, ⟨fun h_ => by have h2_ := Option.some.inj (h_ : some _ = some _); simp only [] at h2_; omega⟩, ⟨fun h_ => by have h2_ := Option.some.inj (h_ : some _ = some _); simp only [] at h2_; omega⟩⟩))
       case rest =>
        obtain ⟨bo, b1, b2, A, c, rfl, rfl, rfl, GO, X1, X2, KX, L0, L1, L2, N1, N2⟩ := hcut
        obtain ⟨w4, rfl⟩ : ∃ w4, wc = w4 := ⟨_, rfl⟩
        have HR03 := Aside0.mk (Kd.C_below HR0.out KW3.out)
        have BG3 := Aside0.mk (blk_below Bbg.out hb3.out)
        have BP3 := Aside0.mk (blk_below BP.out hb3.out)
        have HI := Aside0.mk (show GInv w3.heap.size bo b1 b2 p q (gterm l0 f t) [] wc (fun k => k = bo ∨ (Value.slice A 0 c).ownBlock = some k ∨ k = b1 ∨ k = b2) (.slice A 0 c) from ⟨GO.out, X1.out, X2.out, N1.out, N2.out, fun k => Iff.rfl⟩)
        have NE1 := Aside0.mk (show bo ≠ b1 from blk_ne GO.out.box X1.out (by decide))
        have NE2 := Aside0.mk (show bo ≠ b2 from blk_ne GO.out.box X2.out (by decide))
        have HSM := Aside0.mk (show ∀ i, 0 ≤ l0.getD i 0 ∧ l0.getD i 0 ≤ 1000 from fun i => by
         rw [List.getD_eq_getElem?_getD]
         by_cases hi : i < l0.length
         ·rw [List.getElem?_eq_getElem hi]; exact K7.out _ (List.getElem_mem hi)
         ·rw [List.getElem?_eq_none (by omega)]; simp)
        have HORD := Aside0.mk (impl_orders.calls 136 #[.pointer (some ⟨bg, 0, none⟩), .pointer (some ⟨b2, 0, none⟩), .pointer (some ⟨b1, 0, none⟩), .pointer (some ⟨bp, 0, none⟩), .pointer (some ⟨bo, 0, none⟩)] (by intro args w; rfl)
         (fun vs W own => ∃ v, GInv w3.heap.size bo b1 b2 p q (gterm l0 f t) vs W own v) 1000000 w3 l2 A2 c2 (Kd.C_below HR2.out KW3.out) HC2.out (by have := HL.out; omega)
         (fun vs W own h k hk => h.elim fun v h => h.lt k hk) (fun vs W W' own h _ hm => h.elim fun v h => ⟨v, h.move hm⟩)
         (fun W vs own o Ao co hI hM hB ho hC hco => hI.elim fun v hI => by
          refine (gift_term w3 W l0 o (some ad) Ao c0 co f t 1 bg b2 b1 bp bo (vs.map (gterm l0 f t)) HR03.out HC0.out hC hco (by rw [ho]; exact HL.out.symm) k6 (by omega) (by omega) (fun i => (HSM.out i).2) (fun i => (HSM.out i).1) ((hB.block bg (blk_lt BG3.out)).trans BG3.out) (by rw [HQ.out]; exact hI.x2) (by rw [HP.out]; exact hI.x1) ((hB.block bp (blk_lt BP3.out)).trans BP3.out) v hI.out hB L0.out (by rw [List.length_map]; omega)).mono ?_
          rintro e W' ⟨he, v', hg, hb', hk, hv⟩
          obtain ⟨own', h1, h2, h3⟩ := hI.next NE1.out NE2.out hg hk hv
          exact ⟨he, own', ⟨v', h1⟩, hb', h2, h3⟩)
         [] (by have := K8.out; simpa using this) wc _ ⟨_, HI.out⟩ KX.out)
        go_wp2_with (refine HORD.out.mono ?_; rintro e w5 ⟨rfl, own5, ⟨v5, hi5⟩, hb5, hk5, ho5⟩; obtain ⟨A5, n5, rfl⟩ := Kd.R_slice hi5.out.row; have HI5 := Aside0.mk hi5; have HB5 := Aside0.mk hb5; clear hi5 hb5 hk5 ho5; have cb5 : w5.cell? ⟨bo, 0, none⟩ = some (.slice A5 (List.map (gterm l0 f t) ([] ++ exts l2 l2.length 0 [])).length n5) := (blk_cell HI5.out.out.box 0).trans rfl)
        go_ret2
        refine ⟨_, rfl, ?_, below_then KW3.out KW3.out.size HB5.out⟩
        rw [← ER.out, Int.toNat_natCast, Int.toNat_natCast]
        have hrow := HI5.out.out.row
        rw [List.nil_append, List.length_map] at hrow
        exact Kd.R_lower (Kd.R_mono hrow (fun _ _ => trivial)) KW3.out.size
      ·rw [if_neg hok] at H
       cases H
    ·rw [if_neg h3] at hb
     injection hb with hb
     obtain ⟨rfl, rfl⟩ := (FAIL hb.symm).out
     have hlb : ((l0.length : Int) != (l2.length : Int)) = false := by rw [hl]; simp
     have h3b : ((g2 : Int) != 1) = true := by simp; exact h3
     clear H hb FAIL hl h3
     unfold Stop
     go_wp2_with (first | (go_at_call 132; (with_reducible refine (impl_arePowers.calls k _ _ l0 true _ ?s1 HC0.out H1.out).mono ?_); (case s1 => (repeat (first | exact (Kd.C_below HR0.out KW.out) | (with_reducible refine Kd.C_alloc ?_ _) | (with_reducible refine Kd.C_drewN ?_ _) | (with_reducible refine Kd.C_drew ?_)))); rintro e w' ⟨rfl, ⟨nd, rfl⟩⟩; (try first | exact ⟨rfl, _, World.drewN_drewN _ _ _⟩ | exact ⟨rfl, _, Eq.trans (World.drewN_drewN _ _ _) (congrArg (World.drewN _) (Nat.add_assoc _ _ _))⟩)) | (go_at_call 133; (with_reducible refine (impl_areArguments.calls k _ _ l2 true _ ?s2 HC2.out H2.out).mono ?_); (case s2 => (repeat (first | exact (Kd.C_below HR2.out KW.out) | (with_reducible refine Kd.C_alloc ?_ _) | (with_reducible refine Kd.C_drewN ?_ _) | (with_reducible refine Kd.C_drew ?_)))); rintro e w' ⟨rfl, ⟨nd, rfl⟩⟩; (try first | exact ⟨rfl, _, World.drewN_drewN _ _ _⟩ | exact ⟨rfl, _, Eq.trans (World.drewN_drewN _ _ _) (congrArg (World.drewN _) (Nat.add_assoc _ _ _))⟩)))
     go_ret2
     exact ⟨_, rfl, Kd.R_nil _ _ _ _ _, (by repeat (first | (with_reducible first | exact KW.out | apply below_alloc | apply pw_below_drewN | apply below_drew1) | exact KW.out))⟩
   ·rw [if_neg hl] at hb
    injection hb with hb
    obtain ⟨rfl, rfl⟩ := (FAIL hb.symm).out
    have hlb : ((l0.length : Int) != (l2.length : Int)) = true := by simp; omega
    clear H hb FAIL hl
    unfold Stop
    go_wp2_with (first | (go_at_call 132; (with_reducible refine (impl_arePowers.calls k _ _ l0 true _ ?s1 HC0.out H1.out).mono ?_); (case s1 => (repeat (first | exact (Kd.C_below HR0.out KW.out) | (with_reducible refine Kd.C_alloc ?_ _) | (with_reducible refine Kd.C_drewN ?_ _) | (with_reducible refine Kd.C_drew ?_)))); rintro e w' ⟨rfl, ⟨nd, rfl⟩⟩; (try first | exact ⟨rfl, _, World.drewN_drewN _ _ _⟩ | exact ⟨rfl, _, Eq.trans (World.drewN_drewN _ _ _) (congrArg (World.drewN _) (Nat.add_assoc _ _ _))⟩)) | (go_at_call 133; (with_reducible refine (impl_areArguments.calls k _ _ l2 true _ ?s2 HC2.out H2.out).mono ?_); (case s2 => (repeat (first | exact (Kd.C_below HR2.out KW.out) | (with_reducible refine Kd.C_alloc ?_ _) | (with_reducible refine Kd.C_drewN ?_ _) | (with_reducible refine Kd.C_drew ?_)))); rintro e w' ⟨rfl, ⟨nd, rfl⟩⟩; (try first | exact ⟨rfl, _, World.drewN_drewN _ _ _⟩ | exact ⟨rfl, _, Eq.trans (World.drewN_drewN _ _ _) (congrArg (World.drewN _) (Nat.add_assoc _ _ _))⟩)))
    go_ret2
    exact ⟨_, rfl, Kd.R_nil _ _ _ _ _, (by repeat (first | (with_reducible first | exact KW.out | apply below_alloc | apply pw_below_drewN | apply below_drew1) | exact KW.out))⟩


/-- A state of type 87 at block g of W; what its slices lead to came in by w0. -/
def IsS87 (w0 W : World) (g : Nat) (f0 : List Int) (f1 : Int) (f2 : Int) : Prop := ∃ A0 c0, W.heap[g]? = some (.cells #[.slice A0 f0.length c0, .int .i64 f1, .int .u64 f2] 87 (0, 0)) ∧ w0.heap.size ≤ g ∧ Kd.C (Kd.int .u8) w0 A0 f0.length f0
theorem IsS87.grown {w0 W : World} {g : Nat} {f0 : List Int} {f1 : Int} {f2 : Int} {W1 : World} {row : Option Nat} (h : IsS87 w0 W g f0 f1 f2) (hw : W.grownBy W1 row) (hne : some g ≠ row) : IsS87 w0 W1 g f0 f1 f2 := by
 obtain ⟨A0, c0, hb, hg, hr0⟩ := h
 exact ⟨A0, c0, blk_grown hb hw hne, hg, hr0⟩
theorem IsS87.own_neN {w0 W : World} {g : Nat} {f0 : List Int} {f1 : Int} {f2 : Int} {α : Type} {d : Kd α} {e : Nat} {base : Nat} {ok : Nat → Prop} {v : Value} {xs : List α} (h : IsS87 w0 W g f0 f1 f2) (ho : Kd.N d e W base ok v xs) (ht : e ≠ 87) : some g ≠ v.ownBlock := by
 obtain ⟨A0, c0, hb, hg, hr0⟩ := h
 exact Kd.N_ne ho hb ht
theorem IsS87.fresh {w0 W : World} {g : Nat} {f0 : List Int} {f1 : Int} {f2 : Int} (h : IsS87 w0 W g f0 f1 f2) : ∀ k, W.heap.size ≤ k → k ≠ g := by
 obtain ⟨A0, c0, hb, hg, hr0⟩ := h
 exact Kd.freshB hb
theorem IsS87.kept {w0 W : World} {g : Nat} {f0 : List Int} {f1 : Int} {f2 : Int} {W1 : World} {S : Nat → Prop} (h : IsS87 w0 W g f0 f1 f2) (hk : Kept W W1 S) (hne : ¬ S g) : IsS87 w0 W1 g f0 f1 f2 := by
 obtain ⟨A0, c0, hb, hg, hr0⟩ := h
 exact ⟨A0, c0, blk_kept hb hk hne, hg, hr0⟩
theorem IsS87.below {w0 W : World} {g : Nat} {f0 : List Int} {f1 : Int} {f2 : Int} {W1 : World} (h : IsS87 w0 W g f0 f1 f2) (hw : Below W.heap.size W W1) : IsS87 w0 W1 g f0 f1 f2 := h.grown (grown_of_below hw none) (by simp)
theorem IsS87.alloc {w0 W : World} {g : Nat} {f0 : List Int} {f1 : Int} {f2 : Int} (h : IsS87 w0 W g f0 f1 f2) (o : Obj) : IsS87 w0 (W.alloc o) g f0 f1 f2 := h.below (below_alloc (Below.refl _ _) o)
theorem IsS87.drewN {w0 W : World} {g : Nat} {f0 : List Int} {f1 : Int} {f2 : Int} (h : IsS87 w0 W g f0 f1 f2) (m : Nat) : IsS87 w0 (W.drewN m) g f0 f1 f2 := h
theorem IsS87.drew {w0 W : World} {g : Nat} {f0 : List Int} {f1 : Int} {f2 : Int} (h : IsS87 w0 W g f0 f1 f2) : IsS87 w0 W.drew g f0 f1 f2 := h
theorem IsS87.at_ {w0 W : World} {g : Nat} {f0 : List Int} {f1 : Int} {f2 : Int} {w' : World} {m : Nat} (hq : W.drewN m = w') (h : IsS87 w0 W g f0 f1 f2) : IsS87 w0 w' g f0 f1 f2 := by subst hq; exact IsS87.drewN h m
theorem IsS87.apart {w0 W : World} {g : Nat} {f0 : List Int} {f1 : Int} {f2 : Int} {α : Type} {d : Kd α} {e : Nat} {base : Nat} {ok : Nat → Prop} {v : Value} {xs : List α} (h : IsS87 w0 W g f0 f1 f2) (ho : d.R e W base ok v xs) (ht : ∀ q, q ∈ e :: d.E → q ≠ 87) : d.R e W base (fun k => ok k ∧ k ≠ g) v xs := by
 obtain ⟨A0, c0, hb, hg, hr0⟩ := h
 exact Kd.R_types ho hb ht
theorem IsS87.own_ne {w0 W : World} {g : Nat} {f0 : List Int} {f1 : Int} {f2 : Int} {α : Type} {d : Kd α} {e : Nat} {base : Nat} {ok : Nat → Prop} {v : Value} {xs : List α} (h : IsS87 w0 W g f0 f1 f2) (ho : d.R e W base ok v xs) (ht : e ≠ 87) : some g ≠ v.ownBlock := by
 obtain ⟨A0, c0, hb, hg, hr0⟩ := h
 exact Kd.R_ne ho hb ht
theorem IsS87.apartQ {w0 W : World} {g : Nat} {f0 : List Int} {f1 : Int} {f2 : Int} {α : Type} {d : Kd α} {e : Nat} {base : Nat} {ok : Nat → Prop} {v : Value} {xs : List α} (h : IsS87 w0 W g f0 f1 f2) (ho : d.Q e W base ok v xs) (ht : ∀ q, q ∈ e :: d.E → q ≠ 87) : d.Q e W base (fun k => ok k ∧ k ≠ g) v xs := by
 obtain ⟨A0, c0, hb, hg, hr0⟩ := h
 exact Kd.Q_types ho hb ht
theorem IsS87.own_neQ {w0 W : World} {g : Nat} {f0 : List Int} {f1 : Int} {f2 : Int} {α : Type} {d : Kd α} {e : Nat} {base : Nat} {ok : Nat → Prop} {v : Value} {xs : List α} (h : IsS87 w0 W g f0 f1 f2) (ho : d.Q e W base ok v xs) (ht : e ≠ 87) : some g ≠ v.ownBlock := by
 obtain ⟨A0, c0, hb, hg, hr0⟩ := h
 exact Kd.Q_ne ho hb ht
theorem IsS87.apartS {w0 W : World} {g : Nat} {f0 : List Int} {f1 : Int} {f2 : Int} {α : Type} {d : Kd α} {e : Nat} {base : Nat} {ok : Nat → Prop} {v : Value} {xs : List α} (h : IsS87 w0 W g f0 f1 f2) (ho : d.S e W base ok v xs) (ht : ∀ q, q ∈ e :: d.E → q ≠ 87) : d.S e W base (fun k => ok k ∧ k ≠ g) v xs := by
 obtain ⟨A0, c0, hb, hg, hr0⟩ := h
 exact Kd.S_types ho hb ht
theorem IsS87.own_neS {w0 W : World} {g : Nat} {f0 : List Int} {f1 : Int} {f2 : Int} {α : Type} {d : Kd α} {e : Nat} {base : Nat} {ok : Nat → Prop} {v : Value} {xs : List α} (h : IsS87 w0 W g f0 f1 f2) (ho : d.S e W base ok v xs) (ht : e ≠ 87) : some g ≠ v.ownBlock := by
 obtain ⟨A0, c0, hb, hg, hr0⟩ := h
 exact Kd.S_ne ho hb ht
theorem IsS87.lt {w0 W : World} {g : Nat} {f0 : List Int} {f1 : Int} {f2 : Int} (h : IsS87 w0 W g f0 f1 f2) : g < W.heap.size := by
 obtain ⟨A0, c0, hb, hg, hr0⟩ := h
 exact blk_lt hb
theorem IsS87.ge {w0 W : World} {g : Nat} {f0 : List Int} {f1 : Int} {f2 : Int} (h : IsS87 w0 W g f0 f1 f2) : w0.heap.size ≤ g := by
 obtain ⟨A0, c0, hb, hg, hr0⟩ := h
 exact hg
theorem IsS87.ne_blk {w0 W : World} {g : Nat} {f0 : List Int} {f1 : Int} {f2 : Int} {a : Nat} {cs : Array Value} {t : TypeId} {fr : Nat × Nat} (h : IsS87 w0 W g f0 f1 f2) (hb2 : W.heap[a]? = some (.cells cs t fr)) (ht : t ≠ 87) : g ≠ a := by
 obtain ⟨A0, c0, hb, hg, hr0⟩ := h
 rintro rfl
 rw [hb] at hb2
 injection hb2 with hb2
 injection hb2 with _ ht2
 exact ht ht2.symm
theorem IsS87.far {w0 W : World} {g : Nat} {f0 : List Int} {f1 : Int} {f2 : Int} {p : Addr} (h : IsS87 w0 W g f0 f1 f2) (hne : g ≠ p.block) (u : Value) : IsS87 w0 (W.setCell p u) g f0 f1 f2 := by
 obtain ⟨A0, c0, hb, hg, hr0⟩ := h
 exact ⟨A0, c0, blk_far hb hne u, hg, hr0⟩
theorem cellS87_0 {W : World} {g : Nat} {A0 : Option Addr} {c0 : Nat} {f0 : List Int} {f1 : Int} {f2 : Int} (h : W.heap[g]? = some (.cells #[.slice A0 f0.length c0, .int .i64 f1, .int .u64 f2] 87 (0, 0))) : W.cell? ⟨g, 0, none⟩ = some (.slice A0 f0.length c0) := (blk_cell h 0).trans rfl
theorem cellS87_1 {W : World} {g : Nat} {A0 : Option Addr} {c0 : Nat} {f0 : List Int} {f1 : Int} {f2 : Int} (h : W.heap[g]? = some (.cells #[.slice A0 f0.length c0, .int .i64 f1, .int .u64 f2] 87 (0, 0))) : W.cell? ⟨g, 1, none⟩ = some (.int .i64 f1) := (blk_cell h 1).trans rfl
theorem IsS87.set_1 {w0 W : World} {g : Nat} {f0 : List Int} {f1 : Int} {f2 : Int} (h : IsS87 w0 W g f0 f1 f2) (x : Int) : IsS87 w0 (W.setCell ⟨g, 1, none⟩ (.int .i64 x)) g f0 x f2 := by
 obtain ⟨A0, c0, hb, hg, hr0⟩ := h
 exact ⟨A0, c0, by simpa using blk_set hb 1 (.int .i64 x), hg, hr0⟩
theorem cellS87_2 {W : World} {g : Nat} {A0 : Option Addr} {c0 : Nat} {f0 : List Int} {f1 : Int} {f2 : Int} (h : W.heap[g]? = some (.cells #[.slice A0 f0.length c0, .int .i64 f1, .int .u64 f2] 87 (0, 0))) : W.cell? ⟨g, 2, none⟩ = some (.int .u64 f2) := (blk_cell h 2).trans rfl
theorem IsS87.set_2 {w0 W : World} {g : Nat} {f0 : List Int} {f1 : Int} {f2 : Int} (h : IsS87 w0 W g f0 f1 f2) (x : Int) : IsS87 w0 (W.setCell ⟨g, 2, none⟩ (.int .u64 x)) g f0 f1 x := by
 obtain ⟨A0, c0, hb, hg, hr0⟩ := h
 exact ⟨A0, c0, by simpa using blk_set hb 2 (.int .u64 x), hg, hr0⟩
theorem IsS87.new (w0 W : World) (A0 : Option Addr) (c0 : Nat) (f0 : List Int) (f1 : Int) (f2 : Int) (hB : Below w0.heap.size w0 W) (hr0 : Kd.C (Kd.int .u8) w0 A0 f0.length f0) : IsS87 w0 (W.alloc (.cells #[.slice A0 f0.length c0, .int .i64 f1, .int .u64 f2] 87)) W.heap.size f0 f1 f2 := ⟨A0, c0, by simpa using heap_alloc_new W _, hB.size, hr0⟩

def spec_l1Cur_next.f (s0_0 : List Int) (s0_1 : Int) (s0_2 : Int) : Option (Int × Int × Int) := if s0_1 < (s0_0.length : Int) then (if 0 ≤ s0_1 then (if (wrap64 (s0_1 + 1)) ≤ (s0_0.length : Int) then (some (wrap64 (rd s0_0 s0_1), wrap64 (s0_1 + 1), IntKind.u64.wrap ((IntKind.u64.wrap ((IntKind.u64.wrap (s0_2 * 6364136223846793005)) + (IntKind.u64.wrap (wrap64 (rd s0_0 s0_1))))) + 1442695040888963407))) else (some (wrap64 (Go.bits .and .u64 ((IntKind.u64.wrap ((IntKind.u64.wrap ((IntKind.u64.wrap (s0_2 * 6364136223846793005)) + (IntKind.u64.wrap (wrap64 (rd s0_0 s0_1))))) + 1442695040888963407)) / 1099511627776) 255), wrap64 (s0_1 + 1), IntKind.u64.wrap ((IntKind.u64.wrap ((IntKind.u64.wrap (s0_2 * 6364136223846793005)) + (IntKind.u64.wrap (wrap64 (rd s0_0 s0_1))))) + 1442695040888963407)))) else (none)) else (if (wrap64 (s0_1 + 1)) ≤ (s0_0.length : Int) then (some (0, wrap64 (s0_1 + 1), IntKind.u64.wrap ((IntKind.u64.wrap ((IntKind.u64.wrap (s0_2 * 6364136223846793005)) + 0)) + 1442695040888963407))) else (some (wrap64 (Go.bits .and .u64 ((IntKind.u64.wrap ((IntKind.u64.wrap ((IntKind.u64.wrap (s0_2 * 6364136223846793005)) + 0)) + 1442695040888963407)) / 1099511627776) 255), wrap64 (s0_1 + 1), IntKind.u64.wrap ((IntKind.u64.wrap ((IntKind.u64.wrap (s0_2 * 6364136223846793005)) + 0)) + 1442695040888963407))))
set_option maxHeartbeats 8000000 in
set_option maxRecDepth 100000 in
theorem spec_l1Cur_next.calls (g : Nat) (s0_0 : List Int) (s0_1 : Int) (s0_2 : Int) (r1 : Int) (r2 : Int) (r3 : Int) (w0 w : World) (hI : IsS87 w0 w g s0_0 s0_1 s0_2) (hB : Below w0.heap.size w0 w) (h : spec_l1Cur_next.f s0_0 s0_1 s0_2 = some (r1, r2, r3)) :
  Calls Try.prog 211 #[.pointer (some ⟨g, 0, none⟩)] w fun e w' => e = .returned (.int .i64 r1) ∧ IsS87 w0 w' g s0_0 r2 r3 ∧ Below w0.heap.size w0 w' ∧ KeepBut w w' g none := by
 have HI0 := Aside0.mk hI
 have HK := Aside0.mk (KeepBut.refl w g none)
 have HL := Aside0.mk hB.size
 clear hI
 have HW0 := Aside0.mk hB.size
 have HB := Aside0.mk hB
 clear hB
 have H : (if s0_1 < (s0_0.length : Int) then (if 0 ≤ s0_1 then (if (wrap64 (s0_1 + 1)) ≤ (s0_0.length : Int) then (some (wrap64 (rd s0_0 s0_1), wrap64 (s0_1 + 1), IntKind.u64.wrap ((IntKind.u64.wrap ((IntKind.u64.wrap (s0_2 * 6364136223846793005)) + (IntKind.u64.wrap (wrap64 (rd s0_0 s0_1))))) + 1442695040888963407))) else (some (wrap64 (Go.bits .and .u64 ((IntKind.u64.wrap ((IntKind.u64.wrap ((IntKind.u64.wrap (s0_2 * 6364136223846793005)) + (IntKind.u64.wrap (wrap64 (rd s0_0 s0_1))))) + 1442695040888963407)) / 1099511627776) 255), wrap64 (s0_1 + 1), IntKind.u64.wrap ((IntKind.u64.wrap ((IntKind.u64.wrap (s0_2 * 6364136223846793005)) + (IntKind.u64.wrap (wrap64 (rd s0_0 s0_1))))) + 1442695040888963407)))) else (none)) else (if (wrap64 (s0_1 + 1)) ≤ (s0_0.length : Int) then (some (0, wrap64 (s0_1 + 1), IntKind.u64.wrap ((IntKind.u64.wrap ((IntKind.u64.wrap (s0_2 * 6364136223846793005)) + 0)) + 1442695040888963407))) else (some (wrap64 (Go.bits .and .u64 ((IntKind.u64.wrap ((IntKind.u64.wrap ((IntKind.u64.wrap (s0_2 * 6364136223846793005)) + 0)) + 1442695040888963407)) / 1099511627776) 255), wrap64 (s0_1 + 1), IntKind.u64.wrap ((IntKind.u64.wrap ((IntKind.u64.wrap (s0_2 * 6364136223846793005)) + 0)) + 1442695040888963407))))) = some (r1, r2, r3) := h
 clear h
 by_cases c2 : s0_1 < (s0_0.length : Int)
 ·rw [if_pos c2] at H
  have c2b0 : decide (s0_1 < (s0_0.length : Int)) = true := decide_eq_true c2
  clear c2
  by_cases c3 : 0 ≤ s0_1
  ·rw [if_pos c3] at H
   have c3b0 : decide (0 ≤ s0_1) = true := decide_eq_true c3
   clear c3
   by_cases c4 : (wrap64 (s0_1 + 1)) ≤ (s0_0.length : Int)
   ·rw [if_pos c4] at H
    have c4b0 : decide ((wrap64 (s0_1 + 1)) ≤ (s0_0.length : Int)) = true := decide_eq_true c4
    clear c4
    simp only [Option.some.injEq, Prod.mk.injEq] at H
    obtain ⟨rfl, rfl, rfl⟩ := H
    obtain ⟨ASz5_0, cSz5_0, HGz5, hgz5, HSz5_0⟩ := HI0.out
    have hcz5_0 := cellS87_0 HGz5
    have hcz5_1 := cellS87_1 HGz5
    have hcz5_2 := cellS87_2 HGz5
    have hfz5_1 := blk_frozen HGz5 1
    have hfz5_2 := blk_frozen HGz5 2
    clear HGz5 hgz5
    have p101 : 0 ≤ (s0_1 : Int) := of_decide_eq_true (by first | (with_reducible assumption) | assumption)
    have q101 : s0_1 < (s0_0.length : Int) := of_decide_eq_true (by first | (with_reducible assumption) | assumption)
    obtain ⟨ad101, e101, hx101_0⟩ := Kd.at_int HSz5_0 s0_1 p101 q101
    cases e101
    replace hx101_0 := pw_cell_below HB.out hx101_0
    replace p101 := eq_true p101
    replace q101 := eq_true q101
    go_enter Try.func211, Try.ntmps211
    go_wp2
    repeat (go_quiet (fail); try go_wp2)
    go_ret
    (try simp only [Int.add_zero])
    exact ⟨by first | rfl | (simp [errW_none, errW_some] <;> rfl) | (simp [*, errW_none, errW_some] <;> rfl), by repeat (first | (with_reducible first | exact HI0.out | apply IsS87.alloc | apply IsS87.drewN | apply IsS87.drew | apply IsS87.set_1 | apply IsS87.set_2) | exact HI0.out), by repeat (first | (with_reducible first | exact HB.out | apply below_alloc | apply pw_below_drewN | apply below_drew1 | refine below_set ?_ (IsS87.ge HI0.out)) | exact HB.out), by repeat (first | (with_reducible first | exact HK.out | apply KeepBut.set_ | apply keep_drewN | apply keep_drew | apply keep_alloc) | exact HK.out)⟩
   ·rw [if_neg c4] at H
    have c4b0 : decide ((wrap64 (s0_1 + 1)) ≤ (s0_0.length : Int)) = false := decide_eq_false c4
    clear c4
    simp only [Option.some.injEq, Prod.mk.injEq] at H
    obtain ⟨rfl, rfl, rfl⟩ := H
    obtain ⟨ASz6_0, cSz6_0, HGz6, hgz6, HSz6_0⟩ := HI0.out
    have hcz6_0 := cellS87_0 HGz6
    have hcz6_1 := cellS87_1 HGz6
    have hcz6_2 := cellS87_2 HGz6
    have hfz6_1 := blk_frozen HGz6 1
    have hfz6_2 := blk_frozen HGz6 2
    clear HGz6 hgz6
    have p101 : 0 ≤ (s0_1 : Int) := of_decide_eq_true (by first | (with_reducible assumption) | assumption)
    have q101 : s0_1 < (s0_0.length : Int) := of_decide_eq_true (by first | (with_reducible assumption) | assumption)
    obtain ⟨ad101, e101, hx101_0⟩ := Kd.at_int HSz6_0 s0_1 p101 q101
    cases e101
    replace hx101_0 := pw_cell_below HB.out hx101_0
    replace p101 := eq_true p101
    replace q101 := eq_true q101
    go_enter Try.func211, Try.ntmps211
    go_wp2
    repeat (go_quiet (fail); try go_wp2)
    go_ret
    (try simp only [Int.add_zero])
    exact ⟨by first | rfl | (simp [errW_none, errW_some] <;> rfl) | (simp [*, errW_none, errW_some] <;> rfl), by repeat (first | (with_reducible first | exact HI0.out | apply IsS87.alloc | apply IsS87.drewN | apply IsS87.drew | apply IsS87.set_1 | apply IsS87.set_2) | exact HI0.out), by repeat (first | (with_reducible first | exact HB.out | apply below_alloc | apply pw_below_drewN | apply below_drew1 | refine below_set ?_ (IsS87.ge HI0.out)) | exact HB.out), by repeat (first | (with_reducible first | exact HK.out | apply KeepBut.set_ | apply keep_drewN | apply keep_drew | apply keep_alloc) | exact HK.out)⟩
  ·rw [if_neg c3] at H
   exact absurd H (by simp)
 ·rw [if_neg c2] at H
  have c2b0 : decide (s0_1 < (s0_0.length : Int)) = false := decide_eq_false c2
  clear c2
  by_cases c7 : (wrap64 (s0_1 + 1)) ≤ (s0_0.length : Int)
  ·rw [if_pos c7] at H
   have c7b0 : decide ((wrap64 (s0_1 + 1)) ≤ (s0_0.length : Int)) = true := decide_eq_true c7
   clear c7
   simp only [Option.some.injEq, Prod.mk.injEq] at H
   obtain ⟨rfl, rfl, rfl⟩ := H
   obtain ⟨ASz8_0, cSz8_0, HGz8, hgz8, HSz8_0⟩ := HI0.out
   have hcz8_0 := cellS87_0 HGz8
   have hcz8_1 := cellS87_1 HGz8
   have hcz8_2 := cellS87_2 HGz8
   have hfz8_1 := blk_frozen HGz8 1
   have hfz8_2 := blk_frozen HGz8 2
   clear HGz8 hgz8
   go_enter Try.func211, Try.ntmps211
   go_wp2
   repeat (go_quiet (fail); try go_wp2)
   go_ret
   (try simp only [Int.add_zero])
   exact ⟨by first | rfl | (simp [errW_none, errW_some] <;> rfl) | (simp [*, errW_none, errW_some] <;> rfl), by repeat (first | (with_reducible first | exact HI0.out | apply IsS87.alloc | apply IsS87.drewN | apply IsS87.drew | apply IsS87.set_1 | apply IsS87.set_2) | exact HI0.out), by repeat (first | (with_reducible first | exact HB.out | apply below_alloc | apply pw_below_drewN | apply below_drew1 | refine below_set ?_ (IsS87.ge HI0.out)) | exact HB.out), by repeat (first | (with_reducible first | exact HK.out | apply KeepBut.set_ | apply keep_drewN | apply keep_drew | apply keep_alloc) | exact HK.out)⟩
  ·rw [if_neg c7] at H
   have c7b0 : decide ((wrap64 (s0_1 + 1)) ≤ (s0_0.length : Int)) = false := decide_eq_false c7
   clear c7
   simp only [Option.some.injEq, Prod.mk.injEq] at H
   obtain ⟨rfl, rfl, rfl⟩ := H
   obtain ⟨ASz9_0, cSz9_0, HGz9, hgz9, HSz9_0⟩ := HI0.out
   have hcz9_0 := cellS87_0 HGz9
   have hcz9_1 := cellS87_1 HGz9
   have hcz9_2 := cellS87_2 HGz9
   have hfz9_1 := blk_frozen HGz9 1
   have hfz9_2 := blk_frozen HGz9 2
   clear HGz9 hgz9
   go_enter Try.func211, Try.ntmps211
   go_wp2
   repeat (go_quiet (fail); try go_wp2)
   go_ret
   (try simp only [Int.add_zero])
   exact ⟨by first | rfl | (simp [errW_none, errW_some] <;> rfl) | (simp [*, errW_none, errW_some] <;> rfl), by repeat (first | (with_reducible first | exact HI0.out | apply IsS87.alloc | apply IsS87.drewN | apply IsS87.drew | apply IsS87.set_1 | apply IsS87.set_2) | exact HI0.out), by repeat (first | (with_reducible first | exact HB.out | apply below_alloc | apply pw_below_drewN | apply below_drew1 | refine below_set ?_ (IsS87.ge HI0.out)) | exact HB.out), by repeat (first | (with_reducible first | exact HK.out | apply KeepBut.set_ | apply keep_drewN | apply keep_drew | apply keep_alloc) | exact HK.out)⟩


def spec_l1Cur_pick.f (s0_0 : List Int) (s0_1 : Int) (s0_2 : Int) (a1 : Int) : Option (Int × Int × Int) := if a1 ≤ 1 then (some (0, s0_1, s0_2)) else ((spec_l1Cur_next.f s0_0 s0_1 s0_2).bind fun bt102 => (if a1 > 200 then ((spec_l1Cur_next.f s0_0 bt102.2.1 bt102.2.2).bind fun bt105 => (if a1 = 0 then (none) else (some (Int.tmod (wrap64 ((wrap64 (bt102.1 * 256)) + bt105.1)) a1, bt105.2.1, bt105.2.2)))) else (if a1 = 0 then (none) else (some (Int.tmod bt102.1 a1, bt102.2.1, bt102.2.2)))))
set_option maxHeartbeats 8000000 in
set_option maxRecDepth 100000 in
theorem spec_l1Cur_pick.calls (g : Nat) (s0_0 : List Int) (s0_1 : Int) (s0_2 : Int) (a1 : Int) (r1 : Int) (r2 : Int) (r3 : Int) (w0 w : World) (hI : IsS87 w0 w g s0_0 s0_1 s0_2) (hB : Below w0.heap.size w0 w) (h : spec_l1Cur_pick.f s0_0 s0_1 s0_2 a1 = some (r1, r2, r3)) :
  Calls Try.prog 146 #[.pointer (some ⟨g, 0, none⟩), .int .i64 a1] w fun e w' => e = .returned (.int .i64 r1) ∧ IsS87 w0 w' g s0_0 r2 r3 ∧ Below w0.heap.size w0 w' ∧ KeepBut w w' g none := by
 have HI0 := Aside0.mk hI
 have HK := Aside0.mk (KeepBut.refl w g none)
 have HL := Aside0.mk hB.size
 clear hI
 have HW0 := Aside0.mk hB.size
 have HB := Aside0.mk hB
 clear hB
 have H : (if a1 ≤ 1 then (some (0, s0_1, s0_2)) else ((spec_l1Cur_next.f s0_0 s0_1 s0_2).bind fun bt102 => (if a1 > 200 then ((spec_l1Cur_next.f s0_0 bt102.2.1 bt102.2.2).bind fun bt105 => (if a1 = 0 then (none) else (some (Int.tmod (wrap64 ((wrap64 (bt102.1 * 256)) + bt105.1)) a1, bt105.2.1, bt105.2.2)))) else (if a1 = 0 then (none) else (some (Int.tmod bt102.1 a1, bt102.2.1, bt102.2.2)))))) = some (r1, r2, r3) := h
 clear h
 by_cases c3 : a1 ≤ 1
 ·rw [if_pos c3] at H
  have c3b0 : decide (a1 ≤ 1) = true := decide_eq_true c3
  clear c3
  simp only [Option.some.injEq, Prod.mk.injEq] at H
  obtain ⟨rfl, rfl, rfl⟩ := H
  go_enter Try.func146, Try.ntmps146
  go_wp2
  go_ret
  exact ⟨by first | rfl | (simp [errW_none, errW_some] <;> rfl) | (simp [*, errW_none, errW_some] <;> rfl), by repeat (first | (with_reducible first | exact HI0.out | apply IsS87.alloc | apply IsS87.drewN | apply IsS87.drew | apply IsS87.set_1 | apply IsS87.set_2) | exact HI0.out), by repeat (first | (with_reducible first | exact HB.out | apply below_alloc | apply pw_below_drewN | apply below_drew1 | refine below_set ?_ (IsS87.ge HI0.out)) | exact HB.out), by repeat (first | (with_reducible first | exact HK.out | apply KeepBut.set_ | apply keep_drewN | apply keep_drew | apply keep_alloc) | exact HK.out)⟩
 ·rw [if_neg c3] at H
  have c3b0 : decide (a1 ≤ 1) = false := decide_eq_false c3
  clear c3
  replace H := Option.bind_eq_some_iff.mp H
  obtain ⟨⟨t102, t103, t104⟩, A40, H⟩ := H
  replace H : (if a1 > 200 then ((spec_l1Cur_next.f s0_0 t103 t104).bind fun bt105 => (if a1 = 0 then (none) else (some (Int.tmod (wrap64 ((wrap64 (t102 * 256)) + bt105.1)) a1, bt105.2.1, bt105.2.2)))) else (if a1 = 0 then (none) else (some (Int.tmod t102 a1, t103, t104)))) = some (r1, r2, r3) := H
  have A4 := Aside0.mk A40
  clear A40
  by_cases c5 : a1 > 200
  ·rw [if_pos c5] at H
   have c5b0 : decide (200 < a1) = true := decide_eq_true c5
   clear c5
   replace H := Option.bind_eq_some_iff.mp H
   obtain ⟨⟨t105, t106, t107⟩, A60, H⟩ := H
   replace H : (if a1 = 0 then (none) else (some (Int.tmod (wrap64 ((wrap64 (t102 * 256)) + t105)) a1, t106, t107))) = some (r1, r2, r3) := H
   have A6 := Aside0.mk A60
   clear A60
   by_cases c7 : a1 = 0
   ·rw [if_pos c7] at H
    exact absurd H (by simp)
   ·rw [if_neg c7] at H
    have c7b0 : (a1 == 0) = false := beq_eq_false_iff_ne.mpr c7
    have c7b1 : (a1 != 0) = true := bne_iff_ne.mpr c7
    simp only [Option.some.injEq, Prod.mk.injEq] at H
    obtain ⟨rfl, rfl, rfl⟩ := H
    go_enter Try.func146, Try.ntmps146
    go_wp2_with (first | ((with_reducible refine gate_callee (f := 211) rfl ?_); refine goesL_ (some 9) rfl rfl Try.func211 (by kernel_rfl) rfl #[.pointer (some ⟨g, 0, none⟩)] rfl (by (try simp only [List.map_toArray, List.map_cons, List.map_nil]); first | done | rfl | (simp only [List.length_drop, List.length_take]; rfl)) ?_; (with_reducible refine (spec_l1Cur_next.calls g s0_0 s0_1 s0_2 t102 t103 t104 w0 _ ?side1 ?side2 A4.out).mono ?_); (case side1 => repeat (first | (with_reducible first | exact HI0.out | apply IsS87.alloc | apply IsS87.drewN | apply IsS87.drew | apply IsS87.set_1 | apply IsS87.set_2) | exact HI0.out)); (case side2 => repeat (first | (with_reducible first | exact HB.out | apply below_alloc | apply pw_below_drewN | apply below_drew1 | refine below_set ?_ (IsS87.ge HI0.out)) | exact HB.out)); rintro e w8 ⟨rfl, hi, hb, hk⟩; refine ⟨_, rfl, ?_⟩; have n0_ := Aside0.mk (KeepBut.trans (by repeat (first | (with_reducible first | exact HK.out | apply KeepBut.set_ | apply keep_drewN | apply keep_drew | apply keep_alloc) | exact HK.out)) hk (.inl rfl)); have n1_ := Aside0.mk (hb); have n2_ := Aside0.mk (hi); clear HK; clear HB; clear HI0; have HK := n0_; have HB := n1_; have HI0 := n2_; clear n0_ n1_ n2_; (try clear hb); (try clear hb2); (try clear hk); (try clear hi)) | ((with_reducible refine gate_callee (f := 211) rfl ?_); refine goesL_ (some 15) rfl rfl Try.func211 (by kernel_rfl) rfl #[.pointer (some ⟨g, 0, none⟩)] rfl (by (try simp only [List.map_toArray, List.map_cons, List.map_nil]); first | done | rfl | (simp only [List.length_drop, List.length_take]; rfl)) ?_; (with_reducible refine (spec_l1Cur_next.calls g s0_0 t103 t104 t105 t106 t107 w0 _ ?side1 ?side2 A6.out).mono ?_); (case side1 => repeat (first | (with_reducible first | exact HI0.out | apply IsS87.alloc | apply IsS87.drewN | apply IsS87.drew | apply IsS87.set_1 | apply IsS87.set_2) | exact HI0.out)); (case side2 => repeat (first | (with_reducible first | exact HB.out | apply below_alloc | apply pw_below_drewN | apply below_drew1 | refine below_set ?_ (IsS87.ge HI0.out)) | exact HB.out)); rintro e w9 ⟨rfl, hi, hb, hk⟩; refine ⟨_, rfl, ?_⟩; have n0_ := Aside0.mk (KeepBut.trans (by repeat (first | (with_reducible first | exact HK.out | apply KeepBut.set_ | apply keep_drewN | apply keep_drew | apply keep_alloc) | exact HK.out)) hk (.inl rfl)); have n1_ := Aside0.mk (hb); have n2_ := Aside0.mk (hi); clear HK; clear HB; clear HI0; have HK := n0_; have HB := n1_; have HI0 := n2_; clear n0_ n1_ n2_; (try clear hb); (try clear hb2); (try clear hk); (try clear hi)))
    go_ret
    exact ⟨by first | rfl | (simp [errW_none, errW_some] <;> rfl) | (simp [*, errW_none, errW_some] <;> rfl), by repeat (first | (with_reducible first | exact HI0.out | apply IsS87.alloc | apply IsS87.drewN | apply IsS87.drew | apply IsS87.set_1 | apply IsS87.set_2) | exact HI0.out), by repeat (first | (with_reducible first | exact HB.out | apply below_alloc | apply pw_below_drewN | apply below_drew1 | refine below_set ?_ (IsS87.ge HI0.out)) | exact HB.out), by repeat (first | (with_reducible first | exact HK.out | apply KeepBut.set_ | apply keep_drewN | apply keep_drew | apply keep_alloc) | exact HK.out)⟩
  ·rw [if_neg c5] at H
   have c5b0 : decide (200 < a1) = false := decide_eq_false c5
   clear c5
   by_cases c10 : a1 = 0
   ·rw [if_pos c10] at H
    exact absurd H (by simp)
   ·rw [if_neg c10] at H
    have c10b0 : (a1 == 0) = false := beq_eq_false_iff_ne.mpr c10
    have c10b1 : (a1 != 0) = true := bne_iff_ne.mpr c10
    simp only [Option.some.injEq, Prod.mk.injEq] at H
    obtain ⟨rfl, rfl, rfl⟩ := H
    go_enter Try.func146, Try.ntmps146
    go_wp2_with (first | ((with_reducible refine gate_callee (f := 211) rfl ?_); refine goesL_ (some 9) rfl rfl Try.func211 (by kernel_rfl) rfl #[.pointer (some ⟨g, 0, none⟩)] rfl (by (try simp only [List.map_toArray, List.map_cons, List.map_nil]); first | done | rfl | (simp only [List.length_drop, List.length_take]; rfl)) ?_; (with_reducible refine (spec_l1Cur_next.calls g s0_0 s0_1 s0_2 t102 t103 t104 w0 _ ?side1 ?side2 A4.out).mono ?_); (case side1 => repeat (first | (with_reducible first | exact HI0.out | apply IsS87.alloc | apply IsS87.drewN | apply IsS87.drew | apply IsS87.set_1 | apply IsS87.set_2) | exact HI0.out)); (case side2 => repeat (first | (with_reducible first | exact HB.out | apply below_alloc | apply pw_below_drewN | apply below_drew1 | refine below_set ?_ (IsS87.ge HI0.out)) | exact HB.out)); rintro e w11 ⟨rfl, hi, hb, hk⟩; refine ⟨_, rfl, ?_⟩; have n0_ := Aside0.mk (KeepBut.trans (by repeat (first | (with_reducible first | exact HK.out | apply KeepBut.set_ | apply keep_drewN | apply keep_drew | apply keep_alloc) | exact HK.out)) hk (.inl rfl)); have n1_ := Aside0.mk (hb); have n2_ := Aside0.mk (hi); clear HK; clear HB; clear HI0; have HK := n0_; have HB := n1_; have HI0 := n2_; clear n0_ n1_ n2_; (try clear hb); (try clear hb2); (try clear hk); (try clear hi)))
    go_ret
    exact ⟨by first | rfl | (simp [errW_none, errW_some] <;> rfl) | (simp [*, errW_none, errW_some] <;> rfl), by repeat (first | (with_reducible first | exact HI0.out | apply IsS87.alloc | apply IsS87.drewN | apply IsS87.drew | apply IsS87.set_1 | apply IsS87.set_2) | exact HI0.out), by repeat (first | (with_reducible first | exact HB.out | apply below_alloc | apply pw_below_drewN | apply below_drew1 | refine below_set ?_ (IsS87.ge HI0.out)) | exact HB.out), by repeat (first | (with_reducible first | exact HK.out | apply KeepBut.set_ | apply keep_drewN | apply keep_drew | apply keep_alloc) | exact HK.out)⟩


def spec_l1Cur_one.f (s0_0 : List Int) (s0_1 : Int) (s0_2 : Int) (a1 : Int) : Option (Bool × Int × Int) := (spec_l1Cur_pick.f s0_0 s0_1 s0_2 a1).bind fun bt108 => (some ((bt108.1 == 0), bt108.2.1, bt108.2.2))
set_option maxHeartbeats 8000000 in
set_option maxRecDepth 100000 in
theorem spec_l1Cur_one.calls (g : Nat) (s0_0 : List Int) (s0_1 : Int) (s0_2 : Int) (a1 : Int) (r1 : Bool) (r2 : Int) (r3 : Int) (w0 w : World) (hI : IsS87 w0 w g s0_0 s0_1 s0_2) (hB : Below w0.heap.size w0 w) (h : spec_l1Cur_one.f s0_0 s0_1 s0_2 a1 = some (r1, r2, r3)) :
  Calls Try.prog 147 #[.pointer (some ⟨g, 0, none⟩), .int .i64 a1] w fun e w' => e = .returned (.bool r1) ∧ IsS87 w0 w' g s0_0 r2 r3 ∧ Below w0.heap.size w0 w' ∧ KeepBut w w' g none := by
 have HI0 := Aside0.mk hI
 have HK := Aside0.mk (KeepBut.refl w g none)
 have HL := Aside0.mk hB.size
 clear hI
 have HW0 := Aside0.mk hB.size
 have HB := Aside0.mk hB
 clear hB
 have H : ((spec_l1Cur_pick.f s0_0 s0_1 s0_2 a1).bind fun bt108 => (some ((bt108.1 == 0), bt108.2.1, bt108.2.2))) = some (r1, r2, r3) := h
 clear h
 replace H := Option.bind_eq_some_iff.mp H
 obtain ⟨⟨t108, t109, t110⟩, A30, H⟩ := H
 replace H : (some ((t108 == 0), t109, t110)) = some (r1, r2, r3) := H
 have A3 := Aside0.mk A30
 clear A30
 simp only [Option.some.injEq, Prod.mk.injEq] at H
 obtain ⟨rfl, rfl, rfl⟩ := H
 go_enter Try.func147, Try.ntmps147
 go_wp2_with (first | ((with_reducible refine gate_callee (f := 146) rfl ?_); refine goesL_ (some 7) rfl rfl Try.func146 (by kernel_rfl) rfl #[.pointer (some ⟨g, 0, none⟩), .int .i64 a1] rfl (by (try simp only [List.map_toArray, List.map_cons, List.map_nil]); first | done | rfl | (simp only [List.length_drop, List.length_take]; rfl)) ?_; (with_reducible refine (spec_l1Cur_pick.calls g s0_0 s0_1 s0_2 a1 t108 t109 t110 w0 _ ?side1 ?side2 A3.out).mono ?_); (case side1 => repeat (first | (with_reducible first | exact HI0.out | apply IsS87.alloc | apply IsS87.drewN | apply IsS87.drew | apply IsS87.set_1 | apply IsS87.set_2) | exact HI0.out)); (case side2 => repeat (first | (with_reducible first | exact HB.out | apply below_alloc | apply pw_below_drewN | apply below_drew1 | refine below_set ?_ (IsS87.ge HI0.out)) | exact HB.out)); rintro e w4 ⟨rfl, hi, hb, hk⟩; refine ⟨_, rfl, ?_⟩; have n0_ := Aside0.mk (KeepBut.trans (by repeat (first | (with_reducible first | exact HK.out | apply KeepBut.set_ | apply keep_drewN | apply keep_drew | apply keep_alloc) | exact HK.out)) hk (.inl rfl)); have n1_ := Aside0.mk (hb); have n2_ := Aside0.mk (hi); clear HK; clear HB; clear HI0; have HK := n0_; have HB := n1_; have HI0 := n2_; clear n0_ n1_ n2_; (try clear hb); (try clear hb2); (try clear hk); (try clear hi)))
 go_ret
 exact ⟨by first | rfl | (simp [errW_none, errW_some] <;> rfl) | (simp [*, errW_none, errW_some] <;> rfl), by repeat (first | (with_reducible first | exact HI0.out | apply IsS87.alloc | apply IsS87.drewN | apply IsS87.drew | apply IsS87.set_1 | apply IsS87.set_2) | exact HI0.out), by repeat (first | (with_reducible first | exact HB.out | apply below_alloc | apply pw_below_drewN | apply below_drew1 | refine below_set ?_ (IsS87.ge HI0.out)) | exact HB.out), by repeat (first | (with_reducible first | exact HK.out | apply KeepBut.set_ | apply keep_drewN | apply keep_drew | apply keep_alloc) | exact HK.out)⟩


def spec_l1Cur_many.f (s0_0 : List Int) (s0_1 : Int) (s0_2 : Int) : Option (Int × Int × Int) := (spec_l1Cur_one.f s0_0 s0_1 s0_2 10).bind fun bt737 => (if bt737.1 = true then (some (5, bt737.2.1, bt737.2.2)) else ((spec_l1Cur_pick.f s0_0 bt737.2.1 bt737.2.2 4).bind fun bt740 => (some (wrap64 (1 + bt740.1), bt740.2.1, bt740.2.2))))
set_option maxHeartbeats 8000000 in
set_option maxRecDepth 100000 in
theorem spec_l1Cur_many.calls (g : Nat) (s0_0 : List Int) (s0_1 : Int) (s0_2 : Int) (r1 : Int) (r2 : Int) (r3 : Int) (w0 w : World) (hI : IsS87 w0 w g s0_0 s0_1 s0_2) (hB : Below w0.heap.size w0 w) (h : spec_l1Cur_many.f s0_0 s0_1 s0_2 = some (r1, r2, r3)) :
  Calls Try.prog 144 #[.pointer (some ⟨g, 0, none⟩)] w fun e w' => e = .returned (.int .i64 r1) ∧ IsS87 w0 w' g s0_0 r2 r3 ∧ Below w0.heap.size w0 w' ∧ KeepBut w w' g none := by
 have HI0 := Aside0.mk hI
 have HK := Aside0.mk (KeepBut.refl w g none)
 have HL := Aside0.mk hB.size
 clear hI
 have HW0 := Aside0.mk hB.size
 have HB := Aside0.mk hB
 clear hB
 have H : ((spec_l1Cur_one.f s0_0 s0_1 s0_2 10).bind fun bt737 => (if bt737.1 = true then (some (5, bt737.2.1, bt737.2.2)) else ((spec_l1Cur_pick.f s0_0 bt737.2.1 bt737.2.2 4).bind fun bt740 => (some (wrap64 (1 + bt740.1), bt740.2.1, bt740.2.2))))) = some (r1, r2, r3) := h
 clear h
 replace H := Option.bind_eq_some_iff.mp H
 obtain ⟨⟨t737, t738, t739⟩, A20, H⟩ := H
 replace H : (if t737 = true then (some (5, t738, t739)) else ((spec_l1Cur_pick.f s0_0 t738 t739 4).bind fun bt740 => (some (wrap64 (1 + bt740.1), bt740.2.1, bt740.2.2)))) = some (r1, r2, r3) := H
 have A2 := Aside0.mk A20
 clear A20
 by_cases c3 : t737 = true
 ·subst c3
  have H1 : (some (5, t738, t739)) = some (r1, r2, r3) := by rw [if_pos rfl] at H; exact H
  clear H
  have H := H1
  clear H1
  simp only [Option.some.injEq, Prod.mk.injEq] at H
  obtain ⟨rfl, rfl, rfl⟩ := H
  go_enter Try.func144, Try.ntmps144
  go_wp2_with (first | ((with_reducible refine gate_callee (f := 147) rfl ?_); refine goesL_ (some 4) rfl rfl Try.func147 (by kernel_rfl) rfl #[.pointer (some ⟨g, 0, none⟩), .int .i64 10] rfl (by (try simp only [List.map_toArray, List.map_cons, List.map_nil]); first | done | rfl | (simp only [List.length_drop, List.length_take]; rfl)) ?_; (with_reducible refine (spec_l1Cur_one.calls g s0_0 s0_1 s0_2 10 true t738 t739 w0 _ ?side1 ?side2 A2.out).mono ?_); (case side1 => repeat (first | (with_reducible first | exact HI0.out | apply IsS87.alloc | apply IsS87.drewN | apply IsS87.drew | apply IsS87.set_1 | apply IsS87.set_2) | exact HI0.out)); (case side2 => repeat (first | (with_reducible first | exact HB.out | apply below_alloc | apply pw_below_drewN | apply below_drew1 | refine below_set ?_ (IsS87.ge HI0.out)) | exact HB.out)); rintro e w4 ⟨rfl, hi, hb, hk⟩; refine ⟨_, rfl, ?_⟩; have n0_ := Aside0.mk (KeepBut.trans (by repeat (first | (with_reducible first | exact HK.out | apply KeepBut.set_ | apply keep_drewN | apply keep_drew | apply keep_alloc) | exact HK.out)) hk (.inl rfl)); have n1_ := Aside0.mk (hb); have n2_ := Aside0.mk (hi); clear HK; clear HB; clear HI0; have HK := n0_; have HB := n1_; have HI0 := n2_; clear n0_ n1_ n2_; (try clear hb); (try clear hb2); (try clear hk); (try clear hi)))
  go_ret
  exact ⟨by first | rfl | (simp [errW_none, errW_some] <;> rfl) | (simp [*, errW_none, errW_some] <;> rfl), by repeat (first | (with_reducible first | exact HI0.out | apply IsS87.alloc | apply IsS87.drewN | apply IsS87.drew | apply IsS87.set_1 | apply IsS87.set_2) | exact HI0.out), by repeat (first | (with_reducible first | exact HB.out | apply below_alloc | apply pw_below_drewN | apply below_drew1 | refine below_set ?_ (IsS87.ge HI0.out)) | exact HB.out), by repeat (first | (with_reducible first | exact HK.out | apply KeepBut.set_ | apply keep_drewN | apply keep_drew | apply keep_alloc) | exact HK.out)⟩
 ·replace c3 := Bool.eq_false_iff.mpr c3
  subst c3
  have H1 : ((spec_l1Cur_pick.f s0_0 t738 t739 4).bind fun bt740 => (some (wrap64 (1 + bt740.1), bt740.2.1, bt740.2.2))) = some (r1, r2, r3) := by rw [if_neg (show ¬ (false = true) by decide)] at H; exact H
  clear H
  have H := H1
  clear H1
  replace H := Option.bind_eq_some_iff.mp H
  obtain ⟨⟨t740, t741, t742⟩, A50, H⟩ := H
  replace H : (some (wrap64 (1 + t740), t741, t742)) = some (r1, r2, r3) := H
  have A5 := Aside0.mk A50
  clear A50
  simp only [Option.some.injEq, Prod.mk.injEq] at H
  obtain ⟨rfl, rfl, rfl⟩ := H
  go_enter Try.func144, Try.ntmps144
  go_wp2_with (first | ((with_reducible refine gate_callee (f := 147) rfl ?_); refine goesL_ (some 4) rfl rfl Try.func147 (by kernel_rfl) rfl #[.pointer (some ⟨g, 0, none⟩), .int .i64 10] rfl (by (try simp only [List.map_toArray, List.map_cons, List.map_nil]); first | done | rfl | (simp only [List.length_drop, List.length_take]; rfl)) ?_; (with_reducible refine (spec_l1Cur_one.calls g s0_0 s0_1 s0_2 10 false t738 t739 w0 _ ?side1 ?side2 A2.out).mono ?_); (case side1 => repeat (first | (with_reducible first | exact HI0.out | apply IsS87.alloc | apply IsS87.drewN | apply IsS87.drew | apply IsS87.set_1 | apply IsS87.set_2) | exact HI0.out)); (case side2 => repeat (first | (with_reducible first | exact HB.out | apply below_alloc | apply pw_below_drewN | apply below_drew1 | refine below_set ?_ (IsS87.ge HI0.out)) | exact HB.out)); rintro e w6 ⟨rfl, hi, hb, hk⟩; refine ⟨_, rfl, ?_⟩; have n0_ := Aside0.mk (KeepBut.trans (by repeat (first | (with_reducible first | exact HK.out | apply KeepBut.set_ | apply keep_drewN | apply keep_drew | apply keep_alloc) | exact HK.out)) hk (.inl rfl)); have n1_ := Aside0.mk (hb); have n2_ := Aside0.mk (hi); clear HK; clear HB; clear HI0; have HK := n0_; have HB := n1_; have HI0 := n2_; clear n0_ n1_ n2_; (try clear hb); (try clear hb2); (try clear hk); (try clear hi)) | ((with_reducible refine gate_callee (f := 146) rfl ?_); refine goesL_ (some 6) rfl rfl Try.func146 (by kernel_rfl) rfl #[.pointer (some ⟨g, 0, none⟩), .int .i64 4] rfl (by (try simp only [List.map_toArray, List.map_cons, List.map_nil]); first | done | rfl | (simp only [List.length_drop, List.length_take]; rfl)) ?_; (with_reducible refine (spec_l1Cur_pick.calls g s0_0 t738 t739 4 t740 t741 t742 w0 _ ?side1 ?side2 A5.out).mono ?_); (case side1 => repeat (first | (with_reducible first | exact HI0.out | apply IsS87.alloc | apply IsS87.drewN | apply IsS87.drew | apply IsS87.set_1 | apply IsS87.set_2) | exact HI0.out)); (case side2 => repeat (first | (with_reducible first | exact HB.out | apply below_alloc | apply pw_below_drewN | apply below_drew1 | refine below_set ?_ (IsS87.ge HI0.out)) | exact HB.out)); rintro e w7 ⟨rfl, hi, hb, hk⟩; refine ⟨_, rfl, ?_⟩; have n0_ := Aside0.mk (KeepBut.trans (by repeat (first | (with_reducible first | exact HK.out | apply KeepBut.set_ | apply keep_drewN | apply keep_drew | apply keep_alloc) | exact HK.out)) hk (.inl rfl)); have n1_ := Aside0.mk (hb); have n2_ := Aside0.mk (hi); clear HK; clear HB; clear HI0; have HK := n0_; have HB := n1_; have HI0 := n2_; clear n0_ n1_ n2_; (try clear hb); (try clear hb2); (try clear hk); (try clear hi)))
  go_ret
  exact ⟨by first | rfl | (simp [errW_none, errW_some] <;> rfl) | (simp [*, errW_none, errW_some] <;> rfl), by repeat (first | (with_reducible first | exact HI0.out | apply IsS87.alloc | apply IsS87.drewN | apply IsS87.drew | apply IsS87.set_1 | apply IsS87.set_2) | exact HI0.out), by repeat (first | (with_reducible first | exact HB.out | apply below_alloc | apply pw_below_drewN | apply below_drew1 | refine below_set ?_ (IsS87.ge HI0.out)) | exact HB.out), by repeat (first | (with_reducible first | exact HK.out | apply KeepBut.set_ | apply keep_drewN | apply keep_drew | apply keep_alloc) | exact HK.out)⟩


def spec_l1Cur_among.f (s0_0 : List Int) (s0_1 : Int) (s0_2 : Int) (l1 : List Int) : Option (Int × Int × Int) := (spec_l1Cur_pick.f s0_0 s0_1 s0_2 (l1.length : Int)).bind fun bt117 => (if 0 ≤ bt117.1 then (if bt117.1 < (l1.length : Int) then (some (rd l1 bt117.1, bt117.2.1, bt117.2.2)) else (none)) else (none))
set_option maxHeartbeats 8000000 in
set_option maxRecDepth 100000 in
theorem spec_l1Cur_among.calls (g : Nat) (s0_0 : List Int) (s0_1 : Int) (s0_2 : Int) (A1 : Option Addr) (c1 : Nat) (l1 : List Int) (r1 : Int) (r2 : Int) (r3 : Int) (w0 w : World) (hI : IsS87 w0 w g s0_0 s0_1 s0_2) (hB : Below w0.heap.size w0 w) (hr1 : Kd.C (Kd.int .i64) w A1 l1.length l1) (hc1 : l1.length ≤ c1) (hf1 : ∀ ad, A1 = some ad → 0 < l1.length → ad.block ≠ g) (h : spec_l1Cur_among.f s0_0 s0_1 s0_2 l1 = some (r1, r2, r3)) :
  Calls Try.prog 177 #[.pointer (some ⟨g, 0, none⟩), .slice A1 l1.length c1] w fun e w' => e = .returned (.int .i64 r1) ∧ IsS87 w0 w' g s0_0 r2 r3 ∧ Below w0.heap.size w0 w' ∧ KeepBut w w' g none := by
 have HR1 := Aside0.mk hr1
 have HC1 := Aside0.mk hc1
 clear hr1 hc1
 have HI0 := Aside0.mk hI
 have HK := Aside0.mk (KeepBut.refl w g none)
 have HL := Aside0.mk hB.size
 clear hI
 have HW0 := Aside0.mk hB.size
 have HB := Aside0.mk hB
 clear hB
 have H : ((spec_l1Cur_pick.f s0_0 s0_1 s0_2 (l1.length : Int)).bind fun bt117 => (if 0 ≤ bt117.1 then (if bt117.1 < (l1.length : Int) then (some (rd l1 bt117.1, bt117.2.1, bt117.2.2)) else (none)) else (none))) = some (r1, r2, r3) := h
 clear h
 replace H := Option.bind_eq_some_iff.mp H
 obtain ⟨⟨t117, t118, t119⟩, A30, H⟩ := H
 replace H : (if 0 ≤ t117 then (if t117 < (l1.length : Int) then (some (rd l1 t117, t118, t119)) else (none)) else (none)) = some (r1, r2, r3) := H
 have A3 := Aside0.mk A30
 clear A30
 by_cases c4 : 0 ≤ t117
 ·rw [if_pos c4] at H
  have c4b0 : decide (0 ≤ t117) = true := decide_eq_true c4
  clear c4
  by_cases c5 : t117 < (l1.length : Int)
  ·rw [if_pos c5] at H
   have c5b0 : decide (t117 < (l1.length : Int)) = true := decide_eq_true c5
   clear c5
   simp only [Option.some.injEq, Prod.mk.injEq] at H
   obtain ⟨rfl, rfl, rfl⟩ := H
   go_enter Try.func177, Try.ntmps177
   go_wp2_with (first | ((with_reducible refine gate_callee (f := 146) rfl ?_); refine goesL_ (some 9) rfl rfl Try.func146 (by kernel_rfl) rfl #[.pointer (some ⟨g, 0, none⟩), .int .i64 (l1.length : Int)] rfl (by (try simp only [List.map_toArray, List.map_cons, List.map_nil]); first | done | rfl | (simp only [List.length_drop, List.length_take]; rfl)) ?_; (with_reducible refine (spec_l1Cur_pick.calls g s0_0 s0_1 s0_2 (l1.length : Int) t117 t118 t119 w0 _ ?side1 ?side2 A3.out).mono ?_); (case side1 => repeat (first | (with_reducible first | exact HI0.out | apply IsS87.alloc | apply IsS87.drewN | apply IsS87.drew | apply IsS87.set_1 | apply IsS87.set_2) | exact HI0.out)); (case side2 => repeat (first | (with_reducible first | exact HB.out | apply below_alloc | apply pw_below_drewN | apply below_drew1 | refine below_set ?_ (IsS87.ge HI0.out)) | exact HB.out)); rintro e w6 ⟨rfl, hi, hb, hk⟩; refine ⟨_, rfl, ?_⟩; have n0_ := Aside0.mk (KeepBut.trans (by repeat (first | (with_reducible first | exact HK.out | apply KeepBut.set_ | apply keep_drewN | apply keep_drew | apply keep_alloc) | exact HK.out)) hk (.inl rfl)); have n1_ := Aside0.mk (hb); have n2_ := Aside0.mk (hi); clear HK; clear HB; clear HI0; have HK := n0_; have HB := n1_; have HI0 := n2_; clear n0_ n1_ n2_; (try clear hb); (try clear hb2); (try clear hk); (try clear hi); have p120 : 0 ≤ (t117 : Int) := of_decide_eq_true (by first | (with_reducible assumption) | assumption); have q120 : t117 < (l1.length : Int) := of_decide_eq_true (by first | (with_reducible assumption) | assumption); obtain ⟨ad120, e120, hx120_0⟩ := Kd.at_int HR1.out t117 p120 q120; cases e120; replace hx120_0 := keep_cell HK.out hx120_0 (by first | (rw [add_block]; exact hf1 _ rfl (by omega)) | exact hf1 _ rfl (by omega) | exact hf1 ad120 rfl (by omega)); replace p120 := eq_true p120; replace q120 := eq_true q120))
   go_ret
   exact ⟨by first | rfl | (simp [errW_none, errW_some] <;> rfl) | (simp [*, errW_none, errW_some] <;> rfl), by repeat (first | (with_reducible first | exact HI0.out | apply IsS87.alloc | apply IsS87.drewN | apply IsS87.drew | apply IsS87.set_1 | apply IsS87.set_2) | exact HI0.out), by repeat (first | (with_reducible first | exact HB.out | apply below_alloc | apply pw_below_drewN | apply below_drew1 | refine below_set ?_ (IsS87.ge HI0.out)) | exact HB.out), by repeat (first | (with_reducible first | exact HK.out | apply KeepBut.set_ | apply keep_drewN | apply keep_drew | apply keep_alloc) | exact HK.out)⟩
  ·rw [if_neg c5] at H
   exact absurd H (by simp)
 ·rw [if_neg c4] at H
  exact absurd H (by simp)

end Go.Proofs.Ytllnieknogficaa.K
