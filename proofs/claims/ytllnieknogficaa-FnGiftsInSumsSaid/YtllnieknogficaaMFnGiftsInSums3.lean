/-
Part 3 of the proof of the law FnGiftsInSums: what the Go functions that it reaches come to, each proved of the given program; no condition beside those that each theorem names.
-/
import Derived.Test.YtllnieknogficaaMFnGiftsInSums1
import Derived.Test.YtllnieknogficaaMFnGiftsInSums2
namespace Go.Proofs.Ytllnieknogficaa.K
open Go.RowKit Go.Proofs.YtllnieknogficaaW.PrintWords Go.Proofs.YtllnieknogficaaW.PrintLast Go.Proofs.YtllnieknogficaaW.PrintMore
attribute [local go_sem] max2_int min2_int max_two min_two max_three min_three max_four min_four   -- for this text's walks alone
set_option linter.unusedVariables false
set_option linter.unusedSimpArgs false

def spec_l1Cur_powers.l0 : Nat → Int → List Int → List Int → Int → Int → Option (List Int × Int × Int)
 | 0, _, _, _, _, _ => none
 | k + 1, x1, x5, x1000, x1001, x1002 => if (x5.length : Int) < x1 then ((spec_l1Cur_pick.f x1000 x1001 x1002 5).bind fun bt743 => (if x5.length < 17592186044416 then (spec_l1Cur_powers.l0 k x1 (x5 ++ [bt743.1]) x1000 bt743.2.1 bt743.2.2) else (none))) else ((spec_l1Cur_one.f x1000 x1001 x1002 14).bind fun bt749 => (if bt749.1 = true then ((spec_l1Cur_pick.f x1000 bt749.2.1 bt749.2.2 x1).bind fun bt752 => ((spec_l1Cur_among.f x1000 bt752.2.1 bt752.2.2 (([(-1), 5] : List Int))).bind fun bt758 => (if 0 ≤ bt752.1 then (if bt752.1 < (x5.length : Int) then (some ((x5.set (bt752.1 : Int).toNat bt758.1), bt758.2.1, bt758.2.2)) else (none)) else (none)))) else (some (x5, bt749.2.1, bt749.2.2))))
def spec_l1Cur_powers.f (k : Nat) (s0_0 : List Int) (s0_1 : Int) (s0_2 : Int) (a1 : Int) : Option (List Int × Int × Int) := spec_l1Cur_powers.l0 k a1 ([] : List Int) s0_0 s0_1 s0_2
theorem spec_l1Cur_powers.mono_l : ∀ k, (∀ y0 y1 y2 y3 y4, LeO (spec_l1Cur_powers.l0 k y0 y1 y2 y3 y4) (spec_l1Cur_powers.l0 (k + 1) y0 y1 y2 y3 y4))
 | 0 => fun _ _ _ _ _ r h => by simp [spec_l1Cur_powers.l0] at h
 | k + 1 => by
  have ih0 := spec_l1Cur_powers.mono_l k
  ·intro y0 y1 y2 y3 y4
   unfold spec_l1Cur_powers.l0
   repeat' first
   | (with_reducible exact ih0 _ _ _ _ _)
   | (with_reducible exact LeO.refl _)
   | (with_reducible exact LeO.none _)
   | (with_reducible refine LeO.ite ?_ ?_)
   | (with_reducible refine LeO.bind ?_ (fun _ => ?_))
   | exact ih0 _ _ _ _ _
   | exact LeO.none _
   | refine LeO.ite ?_ ?_
   | refine LeO.bind ?_ (fun _ => ?_)
theorem spec_l1Cur_powers.mono : ∀ a0 a1 a2 a3 k, LeO (spec_l1Cur_powers.f k a0 a1 a2 a3) (spec_l1Cur_powers.f (k + 1) a0 a1 a2 a3) := by
 intro a0 a1 a2 a3 k
 have ih0 := spec_l1Cur_powers.mono_l k
 unfold spec_l1Cur_powers.f
 repeat' first
   | (with_reducible exact ih0 _ _ _ _ _)
   | (with_reducible exact LeO.refl _)
   | (with_reducible exact LeO.none _)
   | (with_reducible refine LeO.ite ?_ ?_)
   | (with_reducible refine LeO.bind ?_ (fun _ => ?_))
   | exact ih0 _ _ _ _ _
   | exact LeO.none _
   | refine LeO.ite ?_ ?_
   | refine LeO.bind ?_ (fun _ => ?_)
set_option maxHeartbeats 8000000 in
set_option maxRecDepth 100000 in
theorem spec_l1Cur_powers.calls (k : Nat) (g : Nat) (s0_0 : List Int) (s0_1 : Int) (s0_2 : Int) (a1 : Int) (r1 : List Int) (r2 : Int) (r3 : Int) (w0 w : World) (hI : IsS87 w0 w g s0_0 s0_1 s0_2) (hB : Below w0.heap.size w0 w) (h : spec_l1Cur_powers.f k s0_0 s0_1 s0_2 a1 = some (r1, r2, r3)) :
  Calls Try.prog 145 #[.pointer (some ⟨g, 0, none⟩), .int .i64 a1] w fun e w' => ∃ v0_ : Value, e = .returned (v0_) ∧ Kd.R (Kd.int .i64) 3 w' w.heap.size (fun _ => True) v0_ r1 ∧ IsS87 w0 w' g s0_0 r2 r3 ∧ Below w0.heap.size w0 w' ∧ KeepBut w w' g none := by
 have HI0 := Aside0.mk hI
 have HK := Aside0.mk (KeepBut.refl w g none)
 have HL := Aside0.mk hB.size
 clear hI
 have HW0 := Aside0.mk hB.size
 have HB := Aside0.mk hB
 clear hB
 have H : (spec_l1Cur_powers.l0 k a1 ([] : List Int) s0_0 s0_1 s0_2) = some (r1, r2, r3) := h
 clear h
 have H' := Aside0.mk H
 clear H
 go_enter Try.func145, Try.ntmps145
 go_wp2
 go_loopg [5] k (fun kq v5 w' => ∃ (x5_1 : List Int) (x1001_1 : Int) (x1002_1 : Int), Aside0 (spec_l1Cur_powers.l0 kq a1 x5_1 s0_0 x1001_1 x1002_1 = some (r1, r2, r3)) ∧ Aside0 (kq ≤ k) ∧ Aside0 (Kd.R (Kd.int .i64) 3 w' w.heap.size (fun _ => True) v5 x5_1) ∧ Aside0 (IsS87 w0 w' g s0_0 x1001_1 x1002_1) ∧ Aside0 (KeepBut w w' g none) ∧ Aside0 (Below w0.heap.size w0 w'))
 case atStart => exact ⟨(([] : List Int)), (s0_1), (s0_2), H', ⟨Nat.le_refl _⟩, ⟨by first | exact Kd.R_nil _ _ _ _ _ | exact Kd.N_nil _ _ _ _ _ | exact Kd.V_nil _ _ _ _ _ | exact Kd.Q_nil _ _ _ _ _ | exact Kd.S_nil _ _ _ _ _⟩, ⟨by repeat (first | (with_reducible first | exact HI0.out | apply IsS87.alloc | apply IsS87.drewN | apply IsS87.drew | apply IsS87.set_1 | apply IsS87.set_2) | exact HI0.out)⟩, ⟨by repeat (first | (with_reducible first | exact HK.out | apply KeepBut.set_ | apply keep_drewN | apply keep_drew | apply keep_alloc) | exact HK.out)⟩, ⟨by repeat (first | (with_reducible first | exact HB.out | apply below_alloc | apply pw_below_drewN | apply below_drew1 | refine below_set ?_ (IsS87.ge HI0.out)) | exact HB.out)⟩⟩
 case round =>
  clear H'
  try clear c1
  try clear p2
  obtain ⟨x5_1, x1001_1, x1002_1, HA, HK1, HO_5, HI0, HK, HB⟩ := hrel
  cases gk with
  | zero => exact absurd HA.out (by simp [spec_l1Cur_powers.l0])
  | succ k1 =>
   have H := HA.out
   clear HA
   simp only [spec_l1Cur_powers.l0] at H
   by_cases c3 : (x5_1.length : Int) < a1
   ·rw [if_pos c3] at H
    have c3b0 : decide ((x5_1.length : Int) < a1) = true := decide_eq_true c3
    clear c3
    replace H := Option.bind_eq_some_iff.mp H
    obtain ⟨⟨t743, t744, t745⟩, A40, H⟩ := H
    replace H : (if x5_1.length < 17592186044416 then (spec_l1Cur_powers.l0 k1 a1 (x5_1 ++ [t743]) s0_0 t744 t745) else (none)) = some (r1, r2, r3) := H
    have A4 := Aside0.mk A40
    clear A40
    by_cases c5 : x5_1.length < 17592186044416
    ·rw [if_pos c5] at H
     have LMc5 := Aside0.mk c5
     clear c5
     obtain ⟨y746, hy746⟩ : ∃ y_ : List Int, y_ = (x5_1 ++ [t743]) := ⟨_, rfl⟩
     replace H : (spec_l1Cur_powers.l0 k1 a1 y746 s0_0 t744 t745) = some (r1, r2, r3) := by first | (rw [hy746]; with_reducible exact H) | (have H2_ := (Option.bind_some _ _).symm.trans H; rw [hy746]; with_reducible exact H2_) | (have H2_ := (Option.bind_some _ _).symm.trans H; with_reducible exact H2_) | with_reducible exact H | (rw [hy746]; exact H) | exact H
     have Ny746 := Aside0.mk hy746
     clear hy746
     have H' := Aside0.mk H
     clear H
     obtain ⟨Ao6, co6, eo6⟩ := Kd.R_slice HO_5.out
     subst eo6
     go_wp2_with (first | ((with_reducible refine gate_callee (f := 146) rfl ?_); refine goesL_ (some 12) rfl rfl Try.func146 (by kernel_rfl) rfl #[.pointer (some ⟨g, 0, none⟩), .int .i64 5] rfl (by (try simp only [List.map_toArray, List.map_cons, List.map_nil]); first | done | rfl | (simp only [List.length_drop, List.length_take]; rfl)) ?_; (with_reducible refine (spec_l1Cur_pick.calls g s0_0 x1001_1 x1002_1 5 t743 t744 t745 w0 _ ?side1 ?side2 A4.out).mono ?_); (case side1 => repeat (first | (with_reducible first | exact HI0.out | apply IsS87.alloc | apply IsS87.drewN | apply IsS87.drew | apply IsS87.set_1 | apply IsS87.set_2) | exact HI0.out)); (case side2 => repeat (first | (with_reducible first | exact HB.out | apply below_alloc | apply pw_below_drewN | apply below_drew1 | refine below_set ?_ (IsS87.ge HI0.out)) | exact HB.out)); rintro e w7 ⟨rfl, hi, hb, hk⟩; refine ⟨_, rfl, ?_⟩; have n0_ := Aside0.mk (Kd.R_mono (Kd.R_keep (IsS87.apart (show IsS87 w0 _ g s0_0 x1001_1 x1002_1 from by repeat (first | (with_reducible first | exact HI0.out | apply IsS87.alloc | apply IsS87.drewN | apply IsS87.drew | apply IsS87.set_1 | apply IsS87.set_2) | exact HI0.out)) (by (with_reducible repeat (first | apply Kd.R_alloc | apply Kd.R_drewN | apply Kd.R_drew)); exact HO_5.out) (by decide)) hk (fun _ h => h.2)) (fun _ h => h.1)); have n1_ := Aside0.mk (KeepBut.trans (by repeat (first | (with_reducible first | exact HK.out | apply KeepBut.set_ | apply keep_drewN | apply keep_drew | apply keep_alloc) | exact HK.out)) hk (.inl rfl)); have n2_ := Aside0.mk (hb); have n3_ := Aside0.mk (hi); clear HO_5; clear HK; clear HB; clear HI0; have HO_5 := n0_; have HK := n1_; have HB := n2_; have HI0 := n3_; clear n0_ n1_ n2_ n3_; (try clear hb); (try clear hb2); (try clear hk); (try clear hi)) | ((with_reducible refine gate_builtin (b := .append) (xs := #[.tmp 10, .tmp 13]) rfl ?_); at_builtin; refine Kd.R_append (Kd.int .i64) w.heap.size rfl (.tmp 10) (.tmp 13) 24 3 (.int .i64 0) 8 rfl Try.underlying24 info3 rfl (by decide) (by omega) (.slice Ao6 x5_1.length co6) x5_1 t743 [.int .i64 t743] (fun _ => True) (fun _ => False) rfl rfl ?aP (fun _ hk => hk.elim) ?aF ?aO (Below.refl _ _) ?aS ?aL ?_; (case aP => exact rfl); (case aF => exact (fun _ _ => trivial)); (case aO => exact (by (with_reducible repeat (first | apply Kd.R_alloc | apply Kd.R_drewN | apply Kd.R_drew)); exact HO_5.out)); (case aS => exact (keep_size (w := w) (g := g) (row := none) (by repeat (first | (with_reducible first | exact HK.out | apply KeepBut.set_ | apply keep_drewN | apply keep_drew | apply keep_alloc) | exact HK.out)))); (case aL => have := LMc5.out; omega); intro v747 w8 ho hb hg hat; rw [← Ny746.out] at ho; have n0_ := Aside0.mk (IsS87.grown (by repeat (first | (with_reducible first | exact HI0.out | apply IsS87.alloc | apply IsS87.drewN | apply IsS87.drew | apply IsS87.set_1 | apply IsS87.set_2) | exact HI0.out)) hg (IsS87.own_ne HI0.out HO_5.out (by decide))); have n1_ := Aside0.mk (below_weaken (by repeat (first | (with_reducible first | exact HB.out | apply below_alloc | apply pw_below_drewN | apply below_drew1 | refine below_set ?_ (IsS87.ge HI0.out)) | exact HB.out)) HL.out hb); have n2_ := Aside0.mk (KeepBut.trans (by repeat (first | (with_reducible first | exact HK.out | apply KeepBut.set_ | apply keep_drewN | apply keep_drew | apply keep_alloc) | exact HK.out)) (KeepBut.of_grown hg g) (Kd.R_base2 HO_5.out)); have n3_ := Aside0.mk (ho); clear HI0; clear HB; clear HK; clear HO_5; have HI0 := n0_; have HB := n1_; have HK := n2_; have HO748 := n3_; clear n0_ n1_ n2_ n3_; clear ho hb hg hat))
     go_roundg k1
     case measure => have := HK1.out; omega
     case rel => exact ⟨(y746), (t744), (t745), H', ⟨by have := HK1.out; omega⟩, ⟨by (with_reducible repeat (first | apply Kd.R_alloc | apply Kd.R_drewN | apply Kd.R_drew)); exact HO748.out⟩, ⟨by repeat (first | (with_reducible first | exact HI0.out | apply IsS87.alloc | apply IsS87.drewN | apply IsS87.drew | apply IsS87.set_1 | apply IsS87.set_2) | exact HI0.out)⟩, ⟨by repeat (first | (with_reducible first | exact HK.out | apply KeepBut.set_ | apply keep_drewN | apply keep_drew | apply keep_alloc) | exact HK.out)⟩, ⟨by repeat (first | (with_reducible first | exact HB.out | apply below_alloc | apply pw_below_drewN | apply below_drew1 | refine below_set ?_ (IsS87.ge HI0.out)) | exact HB.out)⟩⟩
    ·rw [if_neg c5] at H
     exact absurd H (by simp)
   ·rw [if_neg c3] at H
    have c3b0 : decide ((x5_1.length : Int) < a1) = false := decide_eq_false c3
    clear c3
    replace H := Option.bind_eq_some_iff.mp H
    obtain ⟨⟨t749, t750, t751⟩, A90, H⟩ := H
    replace H : (if t749 = true then ((spec_l1Cur_pick.f s0_0 t750 t751 a1).bind fun bt752 => ((spec_l1Cur_among.f s0_0 bt752.2.1 bt752.2.2 (([(-1), 5] : List Int))).bind fun bt758 => (if 0 ≤ bt752.1 then (if bt752.1 < (x5_1.length : Int) then (some ((x5_1.set (bt752.1 : Int).toNat bt758.1), bt758.2.1, bt758.2.2)) else (none)) else (none)))) else (some (x5_1, t750, t751))) = some (r1, r2, r3) := H
    have A9 := Aside0.mk A90
    clear A90
    by_cases c10 : t749 = true
    ·subst c10
     have H1 : ((spec_l1Cur_pick.f s0_0 t750 t751 a1).bind fun bt752 => ((spec_l1Cur_among.f s0_0 bt752.2.1 bt752.2.2 (([(-1), 5] : List Int))).bind fun bt758 => (if 0 ≤ bt752.1 then (if bt752.1 < (x5_1.length : Int) then (some ((x5_1.set (bt752.1 : Int).toNat bt758.1), bt758.2.1, bt758.2.2)) else (none)) else (none)))) = some (r1, r2, r3) := by rw [if_pos rfl] at H; exact H
     clear H
     have H := H1
     clear H1
     replace H := Option.bind_eq_some_iff.mp H
     obtain ⟨⟨t752, t753, t754⟩, A110, H⟩ := H
     replace H : ((spec_l1Cur_among.f s0_0 t753 t754 (([(-1), 5] : List Int))).bind fun bt758 => (if 0 ≤ t752 then (if t752 < (x5_1.length : Int) then (some ((x5_1.set (t752 : Int).toNat bt758.1), bt758.2.1, bt758.2.2)) else (none)) else (none))) = some (r1, r2, r3) := H
     have A11 := Aside0.mk A110
     clear A110
     obtain ⟨y755, hy755⟩ : ∃ y_ : List Int, y_ = (([(-1), 5] : List Int)) := ⟨_, rfl⟩
     replace H : ((spec_l1Cur_among.f s0_0 t753 t754 y755).bind fun bt758 => (if 0 ≤ t752 then (if t752 < (x5_1.length : Int) then (some ((x5_1.set (t752 : Int).toNat bt758.1), bt758.2.1, bt758.2.2)) else (none)) else (none))) = some (r1, r2, r3) := by first | (rw [hy755]; with_reducible exact H) | (have H2_ := (Option.bind_some _ _).symm.trans H; rw [hy755]; with_reducible exact H2_) | (have H2_ := (Option.bind_some _ _).symm.trans H; with_reducible exact H2_) | with_reducible exact H | (rw [hy755]; exact H) | exact H
     have Ny755 := Aside0.mk hy755
     clear hy755
     replace H := Option.bind_eq_some_iff.mp H
     obtain ⟨⟨t758, t759, t760⟩, A120, H⟩ := H
     replace H : (if 0 ≤ t752 then (if t752 < (x5_1.length : Int) then (some ((x5_1.set (t752 : Int).toNat t758), t759, t760)) else (none)) else (none)) = some (r1, r2, r3) := H
     have A12 := Aside0.mk A120
     clear A120
     by_cases c13 : 0 ≤ t752
     ·rw [if_pos c13] at H
      have c13b0 : decide (0 ≤ t752) = true := decide_eq_true c13
      clear c13
      by_cases c14 : t752 < (x5_1.length : Int)
      ·rw [if_pos c14] at H
       have c14b0 : decide (t752 < (x5_1.length : Int)) = true := decide_eq_true c14
       clear c14
       obtain ⟨y761, hy761⟩ : ∃ y_ : List Int, y_ = (x5_1.set (t752 : Int).toNat t758) := ⟨_, rfl⟩
       replace H : (some (y761, t759, t760)) = some (r1, r2, r3) := by first | (rw [hy761]; with_reducible exact H) | (have H2_ := (Option.bind_some _ _).symm.trans H; rw [hy761]; with_reducible exact H2_) | (have H2_ := (Option.bind_some _ _).symm.trans H; with_reducible exact H2_) | with_reducible exact H | (rw [hy761]; exact H) | exact H
       have Ny761 := Aside0.mk hy761
       clear hy761
       simp only [Option.some.injEq, Prod.mk.injEq] at H
       obtain ⟨rfl, rfl, rfl⟩ := H
       obtain ⟨Ao16, co16, eo16⟩ := Kd.R_slice HO_5.out
       subst eo16
       go_wp2_with (first | ((with_reducible refine gate_callee (f := 147) rfl ?_); refine goesL_ (some 16) rfl rfl Try.func147 (by kernel_rfl) rfl #[.pointer (some ⟨g, 0, none⟩), .int .i64 14] rfl (by (try simp only [List.map_toArray, List.map_cons, List.map_nil]); first | done | rfl | (simp only [List.length_drop, List.length_take]; rfl)) ?_; (with_reducible refine (spec_l1Cur_one.calls g s0_0 x1001_1 x1002_1 14 true t750 t751 w0 _ ?side1 ?side2 A9.out).mono ?_); (case side1 => repeat (first | (with_reducible first | exact HI0.out | apply IsS87.alloc | apply IsS87.drewN | apply IsS87.drew | apply IsS87.set_1 | apply IsS87.set_2) | exact HI0.out)); (case side2 => repeat (first | (with_reducible first | exact HB.out | apply below_alloc | apply pw_below_drewN | apply below_drew1 | refine below_set ?_ (IsS87.ge HI0.out)) | exact HB.out)); rintro e w17 ⟨rfl, hi, hb, hk⟩; refine ⟨_, rfl, ?_⟩; have n0_ := Aside0.mk (Kd.R_mono (Kd.R_keep (IsS87.apart (show IsS87 w0 _ g s0_0 x1001_1 x1002_1 from by repeat (first | (with_reducible first | exact HI0.out | apply IsS87.alloc | apply IsS87.drewN | apply IsS87.drew | apply IsS87.set_1 | apply IsS87.set_2) | exact HI0.out)) (by (with_reducible repeat (first | apply Kd.R_alloc | apply Kd.R_drewN | apply Kd.R_drew)); exact HO_5.out) (by decide)) hk (fun _ h => h.2)) (fun _ h => h.1)); have n1_ := Aside0.mk (KeepBut.trans (by repeat (first | (with_reducible first | exact HK.out | apply KeepBut.set_ | apply keep_drewN | apply keep_drew | apply keep_alloc) | exact HK.out)) hk (.inl rfl)); have n2_ := Aside0.mk (hb); have n3_ := Aside0.mk (hi); clear HO_5; clear HK; clear HB; clear HI0; have HO_5 := n0_; have HK := n1_; have HB := n2_; have HI0 := n3_; clear n0_ n1_ n2_ n3_; (try clear hb); (try clear hb2); (try clear hk); (try clear hi)) | ((with_reducible refine gate_callee (f := 146) rfl ?_); refine goesL_ (some 20) rfl rfl Try.func146 (by kernel_rfl) rfl #[.pointer (some ⟨g, 0, none⟩), .int .i64 a1] rfl (by (try simp only [List.map_toArray, List.map_cons, List.map_nil]); first | done | rfl | (simp only [List.length_drop, List.length_take]; rfl)) ?_; (with_reducible refine (spec_l1Cur_pick.calls g s0_0 t750 t751 a1 t752 t753 t754 w0 _ ?side1 ?side2 A11.out).mono ?_); (case side1 => repeat (first | (with_reducible first | exact HI0.out | apply IsS87.alloc | apply IsS87.drewN | apply IsS87.drew | apply IsS87.set_1 | apply IsS87.set_2) | exact HI0.out)); (case side2 => repeat (first | (with_reducible first | exact HB.out | apply below_alloc | apply pw_below_drewN | apply below_drew1 | refine below_set ?_ (IsS87.ge HI0.out)) | exact HB.out)); rintro e w18 ⟨rfl, hi, hb, hk⟩; refine ⟨_, rfl, ?_⟩; have n0_ := Aside0.mk (Kd.R_mono (Kd.R_keep (IsS87.apart (show IsS87 w0 _ g s0_0 t750 t751 from by repeat (first | (with_reducible first | exact HI0.out | apply IsS87.alloc | apply IsS87.drewN | apply IsS87.drew | apply IsS87.set_1 | apply IsS87.set_2) | exact HI0.out)) (by (with_reducible repeat (first | apply Kd.R_alloc | apply Kd.R_drewN | apply Kd.R_drew)); exact HO_5.out) (by decide)) hk (fun _ h => h.2)) (fun _ h => h.1)); have n1_ := Aside0.mk (KeepBut.trans (by repeat (first | (with_reducible first | exact HK.out | apply KeepBut.set_ | apply keep_drewN | apply keep_drew | apply keep_alloc) | exact HK.out)) hk (.inl rfl)); have n2_ := Aside0.mk (hb); have n3_ := Aside0.mk (hi); clear HO_5; clear HK; clear HB; clear HI0; have HO_5 := n0_; have HK := n1_; have HB := n2_; have HI0 := n3_; clear n0_ n1_ n2_ n3_; (try clear hb); (try clear hb2); (try clear hk); (try clear hi)) | ((with_reducible refine gate_dst (N := 22) rfl ?_); refine Kd.R_lit (Kd.int .i64) _ 3 ?hg (N := 22) ?hd (xs := ([(-1), 5] : List Int)) (inner := [.int .i64 (-1), .int .i64 5]) (ok := fun _ => True) (okp := fun _ => True) ?hr ?hp (fun _ hk => hk) trivial (Below.refl _ _) (Nat.le_refl _) (by simp) ?_; (case hd => rfl); (case hg => rfl); (case hr => first | (go_simp; done) | (go_simp; rfl)); (case hp => exact (Reps.one (show Kd.M (Kd.int .i64) _ _ _ (-1) [.int .i64 (-1)] from rfl) (Reps.one (show Kd.M (Kd.int .i64) _ _ _ 5 [.int .i64 5] from rfl) (Reps.none _ _)))); intro v756 w19 ho20 hb hg_ hnew_; clear hg_ hnew_; (first | rw [← Ny755.out] at ho20 | (simp only [Int.reduceToNat] at ho20; rw [← Ny755.out] at ho20)); have n0_ := Aside0.mk (Kd.R_elder' (by (with_reducible repeat (first | apply Kd.R_alloc | apply Kd.R_drewN | apply Kd.R_drew)); exact HO_5.out) (Kd.R_base ho20) hb); have n1_ := Aside0.mk (Kd.R_lower (Kd.R_new' ho20 (Kd.R_lt (by (with_reducible repeat (first | apply Kd.R_alloc | apply Kd.R_drewN | apply Kd.R_drew)); exact HO_5.out))) (keep_size (w := w) (g := g) (row := none) (by repeat (first | (with_reducible first | exact HK.out | apply KeepBut.set_ | apply keep_drewN | apply keep_drew | apply keep_alloc) | exact HK.out)))); have n2_ := Aside0.mk (IsS87.below (by repeat (first | (with_reducible first | exact HI0.out | apply IsS87.alloc | apply IsS87.drewN | apply IsS87.drew | apply IsS87.set_1 | apply IsS87.set_2) | exact HI0.out)) hb); have n3_ := Aside0.mk (KeepBut.trans (by repeat (first | (with_reducible first | exact HK.out | apply KeepBut.set_ | apply keep_drewN | apply keep_drew | apply keep_alloc) | exact HK.out)) (KeepBut.of_below hb g none) (.inl rfl)); have n4_ := Aside0.mk (below_step (by repeat (first | (with_reducible first | exact HB.out | apply below_alloc | apply pw_below_drewN | apply below_drew1 | refine below_set ?_ (IsS87.ge HI0.out)) | exact HB.out)) hb); clear HO_5; clear HI0; clear HK; clear HB; have HO_5 := n0_; have HO757 := n1_; have HI0 := n2_; have HK := n3_; have HB := n4_; clear n0_ n1_ n2_ n3_ n4_; clear hb ho20; obtain ⟨Ao21, co21, eo21⟩ := Kd.R_slice HO757.out; subst eo21) | ((with_reducible refine gate_callee (f := 177) rfl ?_); refine goesL_ (some 23) rfl rfl Try.func177 (by kernel_rfl) rfl #[.pointer (some ⟨g, 0, none⟩), .slice Ao21 y755.length co21] rfl (by (try simp only [List.map_toArray, List.map_cons, List.map_nil]); first | done | rfl | (simp only [List.length_drop, List.length_take]; rfl)) ?_; (with_reducible refine (spec_l1Cur_among.calls g s0_0 t753 t754 _ _ y755 t758 t759 t760 w0 _ ?side1 ?side2 ?side3 ?side4 ?side5 A12.out).mono ?_); (case side1 => repeat (first | (with_reducible first | exact HI0.out | apply IsS87.alloc | apply IsS87.drewN | apply IsS87.drew | apply IsS87.set_1 | apply IsS87.set_2) | exact HI0.out)); (case side2 => repeat (first | (with_reducible first | exact HB.out | apply below_alloc | apply pw_below_drewN | apply below_drew1 | refine below_set ?_ (IsS87.ge HI0.out)) | exact HB.out)); (case side3 => repeat (first | exact (Kd.R_reads' HO757.out).2.2 | (with_reducible refine Kd.C_alloc ?_ _) | (with_reducible refine Kd.C_drewN ?_ _) | (with_reducible refine Kd.C_drew ?_))); (case side4 => exact (Kd.R_reads' HO757.out).2.1); (case side5 => exact far_slice (IsS87.own_ne HI0.out HO757.out (by decide))); rintro e w22 ⟨rfl, hi, hb, hk⟩; refine ⟨_, rfl, ?_⟩; have n0_ := Aside0.mk (Kd.R_mono (Kd.R_keep (IsS87.apart (show IsS87 w0 _ g s0_0 t753 t754 from by repeat (first | (with_reducible first | exact HI0.out | apply IsS87.alloc | apply IsS87.drewN | apply IsS87.drew | apply IsS87.set_1 | apply IsS87.set_2) | exact HI0.out)) (by (with_reducible repeat (first | apply Kd.R_alloc | apply Kd.R_drewN | apply Kd.R_drew)); exact HO_5.out) (by decide)) hk (fun _ h => h.2)) (fun _ h => h.1)); have n1_ := Aside0.mk (Kd.R_mono (Kd.R_keep (IsS87.apart (show IsS87 w0 _ g s0_0 t753 t754 from by repeat (first | (with_reducible first | exact HI0.out | apply IsS87.alloc | apply IsS87.drewN | apply IsS87.drew | apply IsS87.set_1 | apply IsS87.set_2) | exact HI0.out)) (by (with_reducible repeat (first | apply Kd.R_alloc | apply Kd.R_drewN | apply Kd.R_drew)); exact HO757.out) (by decide)) hk (fun _ h => h.2)) (fun _ h => h.1)); have n2_ := Aside0.mk (KeepBut.trans (by repeat (first | (with_reducible first | exact HK.out | apply KeepBut.set_ | apply keep_drewN | apply keep_drew | apply keep_alloc) | exact HK.out)) hk (.inl rfl)); have n3_ := Aside0.mk (hb); have n4_ := Aside0.mk (hi); clear HO_5; clear HO757; clear HK; clear HB; clear HI0; have HO_5 := n0_; have HO757 := n1_; have HK := n2_; have HB := n3_; have HI0 := n4_; clear n0_ n1_ n2_ n3_ n4_; (try clear hb); (try clear hb2); (try clear hk); (try clear hi); have p15 : 0 ≤ (t752 : Int) := of_decide_eq_true (by first | (with_reducible assumption) | assumption); have q15 : (t752 : Int) < ((x5_1.length : Int) : Int) := of_decide_eq_true (by first | (with_reducible assumption) | assumption); obtain ⟨go15, co15, eo15, gb15, gl15, cl15, HG15⟩ := Kd.R_form HO_5.out (by omega); (first | cases eo15 | (injection eo15 with ea_ en_ ec_; (first | subst ea_ | (injection ea_ with ea_; subst ea_)); subst ec_; clear en_)); have GB15 := Aside0.mk gb15; have GG15 := Aside0.mk HG15; clear gb15 gl15 HG15; obtain ⟨hx15_0, hf15_0⟩ := Kd.R_celln 0 HO_5.out (t752 : Int) p15 q15; replace p15 := eq_true p15; replace q15 := eq_true q15; have n_ := Aside0.mk (Kd.R_mono (ok' := (fun k_ => some k_ ≠ (.slice Ao21 y755.length co21 : Value).ownBlock)) HO_5.out (fun k_ hk => hk.2)); clear HO_5; have HO_5 := n_; clear n_; obtain ⟨hy23_, hz23_⟩ := Kd.R_celln 0 HO_5.out (t752 : Int) (of_decide_eq_true (by first | (with_reducible assumption) | assumption)) (of_decide_eq_true (by first | (with_reducible assumption) | assumption)); have HP23 := Kd.R_putg HO_5.out (t752 : Int) t758) | ((with_reducible refine gate_store (t := 3) (p := 24) rfl ?_); refine store_event (t := 3) (p := 24) (v := ?vo_w24) (w1 := (w22.setCell ⟨go15, (t752 : Int).toNat, none⟩ (.int .i64 t758))) ?hg ?ho ?hn ?hr ?_; (case ho => rfl); (case hg => rfl); (case hn => rfl); (case hr => first | (go_simp; done) | (go_simp; rfl)); intro w24 hw; have hg : w22.grownBy w24 (some go15) := (by rw [hw]; exact HP23.2); have hp_ : Kd.R (Kd.int .i64) 3 w24 w.heap.size (fun k_ => some k_ ≠ (.slice Ao21 y755.length co21 : Value).ownBlock) (.slice (some ⟨go15, 0, none⟩) x5_1.length co16) y761 := (by rw [hw, Ny761.out]; exact HP23.1); clear HP23; have n0_ := Aside0.mk (hp_); have n1_ := Aside0.mk (IsS87.grown (by repeat (first | (with_reducible first | exact HI0.out | apply IsS87.alloc | apply IsS87.drewN | apply IsS87.drew | apply IsS87.set_1 | apply IsS87.set_2) | exact HI0.out)) hg (IsS87.own_ne HI0.out HO_5.out (by decide))); have n2_ := Aside0.mk (Kd.R_after (v := (.slice (some ⟨go15, 0, none⟩) x5_1.length co16)) (v1 := (.slice (some ⟨go15, 0, none⟩) x5_1.length co16)) (ok := (fun _ => True)) (by (with_reducible repeat (first | apply Kd.R_alloc | apply Kd.R_drewN | apply Kd.R_drew)); exact HO757.out) hg (.inl rfl)); have n3_ := Aside0.mk ((by rw [hw]; exact below_set (HB.out) (Nat.le_trans HL.out GB15.out) : Below w0.heap.size w0 w24)); have n4_ := Aside0.mk (KeepBut.trans (by repeat (first | (with_reducible first | exact HK.out | apply KeepBut.set_ | apply keep_drewN | apply keep_drew | apply keep_alloc) | exact HK.out)) (KeepBut.of_grown hg g) (Kd.R_base2 HO_5.out)); clear HO_5; clear HI0; clear HO757; clear HB; clear HK; have HO_5 := n0_; have HI0 := n1_; have HO757 := n2_; have HB := n3_; have HK := n4_; clear n0_ n1_ n2_ n3_ n4_; clear hg hw hp_))
       go_ret
       exact ⟨_, by first | rfl | (simp [errW_none, errW_some] <;> rfl) | (simp [*, errW_none, errW_some] <;> rfl), by (with_reducible repeat (first | apply Kd.R_alloc | apply Kd.R_drewN | apply Kd.R_drew)); exact Kd.R_mono HO_5.out (fun _ hk => trivial), by repeat (first | (with_reducible first | exact HI0.out | apply IsS87.alloc | apply IsS87.drewN | apply IsS87.drew | apply IsS87.set_1 | apply IsS87.set_2) | exact HI0.out), by repeat (first | (with_reducible first | exact HB.out | apply below_alloc | apply pw_below_drewN | apply below_drew1 | refine below_set ?_ (IsS87.ge HI0.out)) | exact HB.out), by repeat (first | (with_reducible first | exact HK.out | apply KeepBut.set_ | apply keep_drewN | apply keep_drew | apply keep_alloc) | exact HK.out)⟩
      ·rw [if_neg c14] at H
       exact absurd H (by simp)
     ·rw [if_neg c13] at H
      exact absurd H (by simp)
    ·replace c10 := Bool.eq_false_iff.mpr c10
     subst c10
     have H1 : (some (x5_1, t750, t751)) = some (r1, r2, r3) := by rw [if_neg (show ¬ (false = true) by decide)] at H; exact H
     clear H
     have H := H1
     clear H1
     simp only [Option.some.injEq, Prod.mk.injEq] at H
     obtain ⟨rfl, rfl, rfl⟩ := H
     obtain ⟨Ao25, co25, eo25⟩ := Kd.R_slice HO_5.out
     subst eo25
     go_wp2_with (first | ((with_reducible refine gate_callee (f := 147) rfl ?_); refine goesL_ (some 16) rfl rfl Try.func147 (by kernel_rfl) rfl #[.pointer (some ⟨g, 0, none⟩), .int .i64 14] rfl (by (try simp only [List.map_toArray, List.map_cons, List.map_nil]); first | done | rfl | (simp only [List.length_drop, List.length_take]; rfl)) ?_; (with_reducible refine (spec_l1Cur_one.calls g s0_0 x1001_1 x1002_1 14 false t750 t751 w0 _ ?side1 ?side2 A9.out).mono ?_); (case side1 => repeat (first | (with_reducible first | exact HI0.out | apply IsS87.alloc | apply IsS87.drewN | apply IsS87.drew | apply IsS87.set_1 | apply IsS87.set_2) | exact HI0.out)); (case side2 => repeat (first | (with_reducible first | exact HB.out | apply below_alloc | apply pw_below_drewN | apply below_drew1 | refine below_set ?_ (IsS87.ge HI0.out)) | exact HB.out)); rintro e w26 ⟨rfl, hi, hb, hk⟩; refine ⟨_, rfl, ?_⟩; have n0_ := Aside0.mk (Kd.R_mono (Kd.R_keep (IsS87.apart (show IsS87 w0 _ g s0_0 x1001_1 x1002_1 from by repeat (first | (with_reducible first | exact HI0.out | apply IsS87.alloc | apply IsS87.drewN | apply IsS87.drew | apply IsS87.set_1 | apply IsS87.set_2) | exact HI0.out)) (by (with_reducible repeat (first | apply Kd.R_alloc | apply Kd.R_drewN | apply Kd.R_drew)); exact HO_5.out) (by decide)) hk (fun _ h => h.2)) (fun _ h => h.1)); have n1_ := Aside0.mk (KeepBut.trans (by repeat (first | (with_reducible first | exact HK.out | apply KeepBut.set_ | apply keep_drewN | apply keep_drew | apply keep_alloc) | exact HK.out)) hk (.inl rfl)); have n2_ := Aside0.mk (hb); have n3_ := Aside0.mk (hi); clear HO_5; clear HK; clear HB; clear HI0; have HO_5 := n0_; have HK := n1_; have HB := n2_; have HI0 := n3_; clear n0_ n1_ n2_ n3_; (try clear hb); (try clear hb2); (try clear hk); (try clear hi)))
     go_ret
     exact ⟨_, by first | rfl | (simp [errW_none, errW_some] <;> rfl) | (simp [*, errW_none, errW_some] <;> rfl), by (with_reducible repeat (first | apply Kd.R_alloc | apply Kd.R_drewN | apply Kd.R_drew)); exact HO_5.out, by repeat (first | (with_reducible first | exact HI0.out | apply IsS87.alloc | apply IsS87.drewN | apply IsS87.drew | apply IsS87.set_1 | apply IsS87.set_2) | exact HI0.out), by repeat (first | (with_reducible first | exact HB.out | apply below_alloc | apply pw_below_drewN | apply below_drew1 | refine below_set ?_ (IsS87.ge HI0.out)) | exact HB.out), by repeat (first | (with_reducible first | exact HK.out | apply KeepBut.set_ | apply keep_drewN | apply keep_drew | apply keep_alloc) | exact HK.out)⟩


def spec_l1Cur_arguments.l0 : Nat → Int → List Int → List Int → Int → Int → Option (List Int × Int × Int)
 | 0, _, _, _, _, _ => none
 | k + 1, x1, x5, x1000, x1001, x1002 => if (x5.length : Int) < x1 then ((spec_l1Cur_pick.f x1000 x1001 x1002 9).bind fun bt762 => (if x5.length < 17592186044416 then (spec_l1Cur_arguments.l0 k x1 (x5 ++ [wrap64 (1 + bt762.1)]) x1000 bt762.2.1 bt762.2.2) else (none))) else ((spec_l1Cur_pick.f x1000 x1001 x1002 14).bind fun bt768 => (if bt768.1 = 0 then ((spec_l1Cur_pick.f x1000 bt768.2.1 bt768.2.2 x1).bind fun bt771 => ((spec_l1Cur_among.f x1000 bt771.2.1 bt771.2.2 (([(-1), 0, 1, 10] : List Int))).bind fun bt777 => (if 0 ≤ bt771.1 then (if bt771.1 < (x5.length : Int) then (some ((x5.set (bt771.1 : Int).toNat bt777.1), bt777.2.1, bt777.2.2)) else (none)) else (none)))) else (if bt768.1 = 1 then (if x5.length < 17592186044416 then (some ((x5 ++ [2]), bt768.2.1, bt768.2.2)) else (none)) else (some (x5, bt768.2.1, bt768.2.2)))))
def spec_l1Cur_arguments.f (k : Nat) (s0_0 : List Int) (s0_1 : Int) (s0_2 : Int) (a1 : Int) : Option (List Int × Int × Int) := spec_l1Cur_arguments.l0 k a1 ([] : List Int) s0_0 s0_1 s0_2
theorem spec_l1Cur_arguments.mono_l : ∀ k, (∀ y0 y1 y2 y3 y4, LeO (spec_l1Cur_arguments.l0 k y0 y1 y2 y3 y4) (spec_l1Cur_arguments.l0 (k + 1) y0 y1 y2 y3 y4))
 | 0 => fun _ _ _ _ _ r h => by simp [spec_l1Cur_arguments.l0] at h
 | k + 1 => by
  have ih0 := spec_l1Cur_arguments.mono_l k
  ·intro y0 y1 y2 y3 y4
   unfold spec_l1Cur_arguments.l0
   repeat' first
   | (with_reducible exact ih0 _ _ _ _ _)
   | (with_reducible exact LeO.refl _)
   | (with_reducible exact LeO.none _)
   | (with_reducible refine LeO.ite ?_ ?_)
   | (with_reducible refine LeO.bind ?_ (fun _ => ?_))
   | exact ih0 _ _ _ _ _
   | exact LeO.none _
   | refine LeO.ite ?_ ?_
   | refine LeO.bind ?_ (fun _ => ?_)
theorem spec_l1Cur_arguments.mono : ∀ a0 a1 a2 a3 k, LeO (spec_l1Cur_arguments.f k a0 a1 a2 a3) (spec_l1Cur_arguments.f (k + 1) a0 a1 a2 a3) := by
 intro a0 a1 a2 a3 k
 have ih0 := spec_l1Cur_arguments.mono_l k
 unfold spec_l1Cur_arguments.f
 repeat' first
   | (with_reducible exact ih0 _ _ _ _ _)
   | (with_reducible exact LeO.refl _)
   | (with_reducible exact LeO.none _)
   | (with_reducible refine LeO.ite ?_ ?_)
   | (with_reducible refine LeO.bind ?_ (fun _ => ?_))
   | exact ih0 _ _ _ _ _
   | exact LeO.none _
   | refine LeO.ite ?_ ?_
   | refine LeO.bind ?_ (fun _ => ?_)
set_option maxHeartbeats 8000000 in
set_option maxRecDepth 100000 in
theorem spec_l1Cur_arguments.calls (k : Nat) (g : Nat) (s0_0 : List Int) (s0_1 : Int) (s0_2 : Int) (a1 : Int) (r1 : List Int) (r2 : Int) (r3 : Int) (w0 w : World) (hI : IsS87 w0 w g s0_0 s0_1 s0_2) (hB : Below w0.heap.size w0 w) (h : spec_l1Cur_arguments.f k s0_0 s0_1 s0_2 a1 = some (r1, r2, r3)) :
  Calls Try.prog 148 #[.pointer (some ⟨g, 0, none⟩), .int .i64 a1] w fun e w' => ∃ v0_ : Value, e = .returned (v0_) ∧ Kd.R (Kd.int .i64) 3 w' w.heap.size (fun _ => True) v0_ r1 ∧ IsS87 w0 w' g s0_0 r2 r3 ∧ Below w0.heap.size w0 w' ∧ KeepBut w w' g none := by
 have HI0 := Aside0.mk hI
 have HK := Aside0.mk (KeepBut.refl w g none)
 have HL := Aside0.mk hB.size
 clear hI
 have HW0 := Aside0.mk hB.size
 have HB := Aside0.mk hB
 clear hB
 have H : (spec_l1Cur_arguments.l0 k a1 ([] : List Int) s0_0 s0_1 s0_2) = some (r1, r2, r3) := h
 clear h
 have H' := Aside0.mk H
 clear H
 go_enter Try.func148, Try.ntmps148
 go_wp2
 go_loopg [5] k (fun kq v5 w' => ∃ (x5_1 : List Int) (x1001_1 : Int) (x1002_1 : Int), Aside0 (spec_l1Cur_arguments.l0 kq a1 x5_1 s0_0 x1001_1 x1002_1 = some (r1, r2, r3)) ∧ Aside0 (kq ≤ k) ∧ Aside0 (Kd.R (Kd.int .i64) 3 w' w.heap.size (fun _ => True) v5 x5_1) ∧ Aside0 (IsS87 w0 w' g s0_0 x1001_1 x1002_1) ∧ Aside0 (KeepBut w w' g none) ∧ Aside0 (Below w0.heap.size w0 w'))
 case atStart => exact ⟨(([] : List Int)), (s0_1), (s0_2), H', ⟨Nat.le_refl _⟩, ⟨by first | exact Kd.R_nil _ _ _ _ _ | exact Kd.N_nil _ _ _ _ _ | exact Kd.V_nil _ _ _ _ _ | exact Kd.Q_nil _ _ _ _ _ | exact Kd.S_nil _ _ _ _ _⟩, ⟨by repeat (first | (with_reducible first | exact HI0.out | apply IsS87.alloc | apply IsS87.drewN | apply IsS87.drew | apply IsS87.set_1 | apply IsS87.set_2) | exact HI0.out)⟩, ⟨by repeat (first | (with_reducible first | exact HK.out | apply KeepBut.set_ | apply keep_drewN | apply keep_drew | apply keep_alloc) | exact HK.out)⟩, ⟨by repeat (first | (with_reducible first | exact HB.out | apply below_alloc | apply pw_below_drewN | apply below_drew1 | refine below_set ?_ (IsS87.ge HI0.out)) | exact HB.out)⟩⟩
 case round =>
  clear H'
  try clear c1
  try clear p2
  obtain ⟨x5_1, x1001_1, x1002_1, HA, HK1, HO_5, HI0, HK, HB⟩ := hrel
  cases gk with
  | zero => exact absurd HA.out (by simp [spec_l1Cur_arguments.l0])
  | succ k1 =>
   have H := HA.out
   clear HA
   simp only [spec_l1Cur_arguments.l0] at H
   by_cases c3 : (x5_1.length : Int) < a1
   ·rw [if_pos c3] at H
    have c3b0 : decide ((x5_1.length : Int) < a1) = true := decide_eq_true c3
    clear c3
    replace H := Option.bind_eq_some_iff.mp H
    obtain ⟨⟨t762, t763, t764⟩, A40, H⟩ := H
    replace H : (if x5_1.length < 17592186044416 then (spec_l1Cur_arguments.l0 k1 a1 (x5_1 ++ [wrap64 (1 + t762)]) s0_0 t763 t764) else (none)) = some (r1, r2, r3) := H
    have A4 := Aside0.mk A40
    clear A40
    by_cases c5 : x5_1.length < 17592186044416
    ·rw [if_pos c5] at H
     have LMc5 := Aside0.mk c5
     clear c5
     obtain ⟨y765, hy765⟩ : ∃ y_ : List Int, y_ = (x5_1 ++ [wrap64 (1 + t762)]) := ⟨_, rfl⟩
     replace H : (spec_l1Cur_arguments.l0 k1 a1 y765 s0_0 t763 t764) = some (r1, r2, r3) := by first | (rw [hy765]; with_reducible exact H) | (have H2_ := (Option.bind_some _ _).symm.trans H; rw [hy765]; with_reducible exact H2_) | (have H2_ := (Option.bind_some _ _).symm.trans H; with_reducible exact H2_) | with_reducible exact H | (rw [hy765]; exact H) | exact H
     have Ny765 := Aside0.mk hy765
     clear hy765
     have H' := Aside0.mk H
     clear H
     obtain ⟨Ao6, co6, eo6⟩ := Kd.R_slice HO_5.out
     subst eo6
     go_wp2_with (first | ((with_reducible refine gate_callee (f := 146) rfl ?_); refine goesL_ (some 12) rfl rfl Try.func146 (by kernel_rfl) rfl #[.pointer (some ⟨g, 0, none⟩), .int .i64 9] rfl (by (try simp only [List.map_toArray, List.map_cons, List.map_nil]); first | done | rfl | (simp only [List.length_drop, List.length_take]; rfl)) ?_; (with_reducible refine (spec_l1Cur_pick.calls g s0_0 x1001_1 x1002_1 9 t762 t763 t764 w0 _ ?side1 ?side2 A4.out).mono ?_); (case side1 => repeat (first | (with_reducible first | exact HI0.out | apply IsS87.alloc | apply IsS87.drewN | apply IsS87.drew | apply IsS87.set_1 | apply IsS87.set_2) | exact HI0.out)); (case side2 => repeat (first | (with_reducible first | exact HB.out | apply below_alloc | apply pw_below_drewN | apply below_drew1 | refine below_set ?_ (IsS87.ge HI0.out)) | exact HB.out)); rintro e w7 ⟨rfl, hi, hb, hk⟩; refine ⟨_, rfl, ?_⟩; have n0_ := Aside0.mk (Kd.R_mono (Kd.R_keep (IsS87.apart (show IsS87 w0 _ g s0_0 x1001_1 x1002_1 from by repeat (first | (with_reducible first | exact HI0.out | apply IsS87.alloc | apply IsS87.drewN | apply IsS87.drew | apply IsS87.set_1 | apply IsS87.set_2) | exact HI0.out)) (by (with_reducible repeat (first | apply Kd.R_alloc | apply Kd.R_drewN | apply Kd.R_drew)); exact HO_5.out) (by decide)) hk (fun _ h => h.2)) (fun _ h => h.1)); have n1_ := Aside0.mk (KeepBut.trans (by repeat (first | (with_reducible first | exact HK.out | apply KeepBut.set_ | apply keep_drewN | apply keep_drew | apply keep_alloc) | exact HK.out)) hk (.inl rfl)); have n2_ := Aside0.mk (hb); have n3_ := Aside0.mk (hi); clear HO_5; clear HK; clear HB; clear HI0; have HO_5 := n0_; have HK := n1_; have HB := n2_; have HI0 := n3_; clear n0_ n1_ n2_ n3_; (try clear hb); (try clear hb2); (try clear hk); (try clear hi)) | ((with_reducible refine gate_builtin (b := .append) (xs := #[.tmp 10, .tmp 14]) rfl ?_); at_builtin; refine Kd.R_append (Kd.int .i64) w.heap.size rfl (.tmp 10) (.tmp 14) 24 3 (.int .i64 0) 8 rfl Try.underlying24 info3 rfl (by decide) (by omega) (.slice Ao6 x5_1.length co6) x5_1 (wrap64 (1 + t762)) [.int .i64 (wrap64 (1 + t762))] (fun _ => True) (fun _ => False) rfl rfl ?aP (fun _ hk => hk.elim) ?aF ?aO (Below.refl _ _) ?aS ?aL ?_; (case aP => exact rfl); (case aF => exact (fun _ _ => trivial)); (case aO => exact (by (with_reducible repeat (first | apply Kd.R_alloc | apply Kd.R_drewN | apply Kd.R_drew)); exact HO_5.out)); (case aS => exact (keep_size (w := w) (g := g) (row := none) (by repeat (first | (with_reducible first | exact HK.out | apply KeepBut.set_ | apply keep_drewN | apply keep_drew | apply keep_alloc) | exact HK.out)))); (case aL => have := LMc5.out; omega); intro v766 w8 ho hb hg hat; rw [← Ny765.out] at ho; have n0_ := Aside0.mk (IsS87.grown (by repeat (first | (with_reducible first | exact HI0.out | apply IsS87.alloc | apply IsS87.drewN | apply IsS87.drew | apply IsS87.set_1 | apply IsS87.set_2) | exact HI0.out)) hg (IsS87.own_ne HI0.out HO_5.out (by decide))); have n1_ := Aside0.mk (below_weaken (by repeat (first | (with_reducible first | exact HB.out | apply below_alloc | apply pw_below_drewN | apply below_drew1 | refine below_set ?_ (IsS87.ge HI0.out)) | exact HB.out)) HL.out hb); have n2_ := Aside0.mk (KeepBut.trans (by repeat (first | (with_reducible first | exact HK.out | apply KeepBut.set_ | apply keep_drewN | apply keep_drew | apply keep_alloc) | exact HK.out)) (KeepBut.of_grown hg g) (Kd.R_base2 HO_5.out)); have n3_ := Aside0.mk (ho); clear HI0; clear HB; clear HK; clear HO_5; have HI0 := n0_; have HB := n1_; have HK := n2_; have HO767 := n3_; clear n0_ n1_ n2_ n3_; clear ho hb hg hat))
     go_roundg k1
     case measure => have := HK1.out; omega
     case rel => exact ⟨(y765), (t763), (t764), H', ⟨by have := HK1.out; omega⟩, ⟨by (with_reducible repeat (first | apply Kd.R_alloc | apply Kd.R_drewN | apply Kd.R_drew)); exact HO767.out⟩, ⟨by repeat (first | (with_reducible first | exact HI0.out | apply IsS87.alloc | apply IsS87.drewN | apply IsS87.drew | apply IsS87.set_1 | apply IsS87.set_2) | exact HI0.out)⟩, ⟨by repeat (first | (with_reducible first | exact HK.out | apply KeepBut.set_ | apply keep_drewN | apply keep_drew | apply keep_alloc) | exact HK.out)⟩, ⟨by repeat (first | (with_reducible first | exact HB.out | apply below_alloc | apply pw_below_drewN | apply below_drew1 | refine below_set ?_ (IsS87.ge HI0.out)) | exact HB.out)⟩⟩
    ·rw [if_neg c5] at H
     exact absurd H (by simp)
   ·rw [if_neg c3] at H
    have c3b0 : decide ((x5_1.length : Int) < a1) = false := decide_eq_false c3
    clear c3
    replace H := Option.bind_eq_some_iff.mp H
    obtain ⟨⟨t768, t769, t770⟩, A90, H⟩ := H
    replace H : (if t768 = 0 then ((spec_l1Cur_pick.f s0_0 t769 t770 a1).bind fun bt771 => ((spec_l1Cur_among.f s0_0 bt771.2.1 bt771.2.2 (([(-1), 0, 1, 10] : List Int))).bind fun bt777 => (if 0 ≤ bt771.1 then (if bt771.1 < (x5_1.length : Int) then (some ((x5_1.set (bt771.1 : Int).toNat bt777.1), bt777.2.1, bt777.2.2)) else (none)) else (none)))) else (if t768 = 1 then (if x5_1.length < 17592186044416 then (some ((x5_1 ++ [2]), t769, t770)) else (none)) else (some (x5_1, t769, t770)))) = some (r1, r2, r3) := H
    have A9 := Aside0.mk A90
    clear A90
    by_cases c10 : t768 = 0
    ·rw [if_pos c10] at H
     have c10b0 : (t768 == 0) = true := beq_iff_eq.mpr c10
     have c10b1 : (t768 != 0) = false := bne_eq_false_iff_eq.mpr c10
     clear c10
     replace H := Option.bind_eq_some_iff.mp H
     obtain ⟨⟨t771, t772, t773⟩, A110, H⟩ := H
     replace H : ((spec_l1Cur_among.f s0_0 t772 t773 (([(-1), 0, 1, 10] : List Int))).bind fun bt777 => (if 0 ≤ t771 then (if t771 < (x5_1.length : Int) then (some ((x5_1.set (t771 : Int).toNat bt777.1), bt777.2.1, bt777.2.2)) else (none)) else (none))) = some (r1, r2, r3) := H
     have A11 := Aside0.mk A110
     clear A110
     obtain ⟨y774, hy774⟩ : ∃ y_ : List Int, y_ = (([(-1), 0, 1, 10] : List Int)) := ⟨_, rfl⟩
     replace H : ((spec_l1Cur_among.f s0_0 t772 t773 y774).bind fun bt777 => (if 0 ≤ t771 then (if t771 < (x5_1.length : Int) then (some ((x5_1.set (t771 : Int).toNat bt777.1), bt777.2.1, bt777.2.2)) else (none)) else (none))) = some (r1, r2, r3) := by first | (rw [hy774]; with_reducible exact H) | (have H2_ := (Option.bind_some _ _).symm.trans H; rw [hy774]; with_reducible exact H2_) | (have H2_ := (Option.bind_some _ _).symm.trans H; with_reducible exact H2_) | with_reducible exact H | (rw [hy774]; exact H) | exact H
     have Ny774 := Aside0.mk hy774
     clear hy774
     replace H := Option.bind_eq_some_iff.mp H
     obtain ⟨⟨t777, t778, t779⟩, A120, H⟩ := H
     replace H : (if 0 ≤ t771 then (if t771 < (x5_1.length : Int) then (some ((x5_1.set (t771 : Int).toNat t777), t778, t779)) else (none)) else (none)) = some (r1, r2, r3) := H
     have A12 := Aside0.mk A120
     clear A120
     by_cases c13 : 0 ≤ t771
     ·rw [if_pos c13] at H
      have c13b0 : decide (0 ≤ t771) = true := decide_eq_true c13
      clear c13
      by_cases c14 : t771 < (x5_1.length : Int)
      ·rw [if_pos c14] at H
       have c14b0 : decide (t771 < (x5_1.length : Int)) = true := decide_eq_true c14
       clear c14
       obtain ⟨y780, hy780⟩ : ∃ y_ : List Int, y_ = (x5_1.set (t771 : Int).toNat t777) := ⟨_, rfl⟩
       replace H : (some (y780, t778, t779)) = some (r1, r2, r3) := by first | (rw [hy780]; with_reducible exact H) | (have H2_ := (Option.bind_some _ _).symm.trans H; rw [hy780]; with_reducible exact H2_) | (have H2_ := (Option.bind_some _ _).symm.trans H; with_reducible exact H2_) | with_reducible exact H | (rw [hy780]; exact H) | exact H
       have Ny780 := Aside0.mk hy780
       clear hy780
       simp only [Option.some.injEq, Prod.mk.injEq] at H
       obtain ⟨rfl, rfl, rfl⟩ := H
       obtain ⟨Ao16, co16, eo16⟩ := Kd.R_slice HO_5.out
       subst eo16
       go_wp2_with (first | ((with_reducible refine gate_callee (f := 146) rfl ?_); refine goesL_ (some 17) rfl rfl Try.func146 (by kernel_rfl) rfl #[.pointer (some ⟨g, 0, none⟩), .int .i64 14] rfl (by (try simp only [List.map_toArray, List.map_cons, List.map_nil]); first | done | rfl | (simp only [List.length_drop, List.length_take]; rfl)) ?_; (with_reducible refine (spec_l1Cur_pick.calls g s0_0 x1001_1 x1002_1 14 t768 t769 t770 w0 _ ?side1 ?side2 A9.out).mono ?_); (case side1 => repeat (first | (with_reducible first | exact HI0.out | apply IsS87.alloc | apply IsS87.drewN | apply IsS87.drew | apply IsS87.set_1 | apply IsS87.set_2) | exact HI0.out)); (case side2 => repeat (first | (with_reducible first | exact HB.out | apply below_alloc | apply pw_below_drewN | apply below_drew1 | refine below_set ?_ (IsS87.ge HI0.out)) | exact HB.out)); rintro e w17 ⟨rfl, hi, hb, hk⟩; refine ⟨_, rfl, ?_⟩; have n0_ := Aside0.mk (Kd.R_mono (Kd.R_keep (IsS87.apart (show IsS87 w0 _ g s0_0 x1001_1 x1002_1 from by repeat (first | (with_reducible first | exact HI0.out | apply IsS87.alloc | apply IsS87.drewN | apply IsS87.drew | apply IsS87.set_1 | apply IsS87.set_2) | exact HI0.out)) (by (with_reducible repeat (first | apply Kd.R_alloc | apply Kd.R_drewN | apply Kd.R_drew)); exact HO_5.out) (by decide)) hk (fun _ h => h.2)) (fun _ h => h.1)); have n1_ := Aside0.mk (KeepBut.trans (by repeat (first | (with_reducible first | exact HK.out | apply KeepBut.set_ | apply keep_drewN | apply keep_drew | apply keep_alloc) | exact HK.out)) hk (.inl rfl)); have n2_ := Aside0.mk (hb); have n3_ := Aside0.mk (hi); clear HO_5; clear HK; clear HB; clear HI0; have HO_5 := n0_; have HK := n1_; have HB := n2_; have HI0 := n3_; clear n0_ n1_ n2_ n3_; (try clear hb); (try clear hb2); (try clear hk); (try clear hi)) | ((with_reducible refine gate_callee (f := 146) rfl ?_); refine goesL_ (some 23) rfl rfl Try.func146 (by kernel_rfl) rfl #[.pointer (some ⟨g, 0, none⟩), .int .i64 a1] rfl (by (try simp only [List.map_toArray, List.map_cons, List.map_nil]); first | done | rfl | (simp only [List.length_drop, List.length_take]; rfl)) ?_; (with_reducible refine (spec_l1Cur_pick.calls g s0_0 t769 t770 a1 t771 t772 t773 w0 _ ?side1 ?side2 A11.out).mono ?_); (case side1 => repeat (first | (with_reducible first | exact HI0.out | apply IsS87.alloc | apply IsS87.drewN | apply IsS87.drew | apply IsS87.set_1 | apply IsS87.set_2) | exact HI0.out)); (case side2 => repeat (first | (with_reducible first | exact HB.out | apply below_alloc | apply pw_below_drewN | apply below_drew1 | refine below_set ?_ (IsS87.ge HI0.out)) | exact HB.out)); rintro e w18 ⟨rfl, hi, hb, hk⟩; refine ⟨_, rfl, ?_⟩; have n0_ := Aside0.mk (Kd.R_mono (Kd.R_keep (IsS87.apart (show IsS87 w0 _ g s0_0 t769 t770 from by repeat (first | (with_reducible first | exact HI0.out | apply IsS87.alloc | apply IsS87.drewN | apply IsS87.drew | apply IsS87.set_1 | apply IsS87.set_2) | exact HI0.out)) (by (with_reducible repeat (first | apply Kd.R_alloc | apply Kd.R_drewN | apply Kd.R_drew)); exact HO_5.out) (by decide)) hk (fun _ h => h.2)) (fun _ h => h.1)); have n1_ := Aside0.mk (KeepBut.trans (by repeat (first | (with_reducible first | exact HK.out | apply KeepBut.set_ | apply keep_drewN | apply keep_drew | apply keep_alloc) | exact HK.out)) hk (.inl rfl)); have n2_ := Aside0.mk (hb); have n3_ := Aside0.mk (hi); clear HO_5; clear HK; clear HB; clear HI0; have HO_5 := n0_; have HK := n1_; have HB := n2_; have HI0 := n3_; clear n0_ n1_ n2_ n3_; (try clear hb); (try clear hb2); (try clear hk); (try clear hi)) | ((with_reducible refine gate_dst (N := 25) rfl ?_); refine Kd.R_lit (Kd.int .i64) _ 3 ?hg (N := 25) ?hd (xs := ([(-1), 0, 1, 10] : List Int)) (inner := [.int .i64 (-1), .int .i64 0, .int .i64 1, .int .i64 10]) (ok := fun _ => True) (okp := fun _ => True) ?hr ?hp (fun _ hk => hk) trivial (Below.refl _ _) (Nat.le_refl _) (by simp) ?_; (case hd => rfl); (case hg => rfl); (case hr => first | (go_simp; done) | (go_simp; rfl)); (case hp => exact (Reps.one (show Kd.M (Kd.int .i64) _ _ _ (-1) [.int .i64 (-1)] from rfl) (Reps.one (show Kd.M (Kd.int .i64) _ _ _ 0 [.int .i64 0] from rfl) (Reps.one (show Kd.M (Kd.int .i64) _ _ _ 1 [.int .i64 1] from rfl) (Reps.one (show Kd.M (Kd.int .i64) _ _ _ 10 [.int .i64 10] from rfl) (Reps.none _ _)))))); intro v775 w19 ho20 hb hg_ hnew_; clear hg_ hnew_; (first | rw [← Ny774.out] at ho20 | (simp only [Int.reduceToNat] at ho20; rw [← Ny774.out] at ho20)); have n0_ := Aside0.mk (Kd.R_elder' (by (with_reducible repeat (first | apply Kd.R_alloc | apply Kd.R_drewN | apply Kd.R_drew)); exact HO_5.out) (Kd.R_base ho20) hb); have n1_ := Aside0.mk (Kd.R_lower (Kd.R_new' ho20 (Kd.R_lt (by (with_reducible repeat (first | apply Kd.R_alloc | apply Kd.R_drewN | apply Kd.R_drew)); exact HO_5.out))) (keep_size (w := w) (g := g) (row := none) (by repeat (first | (with_reducible first | exact HK.out | apply KeepBut.set_ | apply keep_drewN | apply keep_drew | apply keep_alloc) | exact HK.out)))); have n2_ := Aside0.mk (IsS87.below (by repeat (first | (with_reducible first | exact HI0.out | apply IsS87.alloc | apply IsS87.drewN | apply IsS87.drew | apply IsS87.set_1 | apply IsS87.set_2) | exact HI0.out)) hb); have n3_ := Aside0.mk (KeepBut.trans (by repeat (first | (with_reducible first | exact HK.out | apply KeepBut.set_ | apply keep_drewN | apply keep_drew | apply keep_alloc) | exact HK.out)) (KeepBut.of_below hb g none) (.inl rfl)); have n4_ := Aside0.mk (below_step (by repeat (first | (with_reducible first | exact HB.out | apply below_alloc | apply pw_below_drewN | apply below_drew1 | refine below_set ?_ (IsS87.ge HI0.out)) | exact HB.out)) hb); clear HO_5; clear HI0; clear HK; clear HB; have HO_5 := n0_; have HO776 := n1_; have HI0 := n2_; have HK := n3_; have HB := n4_; clear n0_ n1_ n2_ n3_ n4_; clear hb ho20; obtain ⟨Ao21, co21, eo21⟩ := Kd.R_slice HO776.out; subst eo21) | ((with_reducible refine gate_callee (f := 177) rfl ?_); refine goesL_ (some 26) rfl rfl Try.func177 (by kernel_rfl) rfl #[.pointer (some ⟨g, 0, none⟩), .slice Ao21 y774.length co21] rfl (by (try simp only [List.map_toArray, List.map_cons, List.map_nil]); first | done | rfl | (simp only [List.length_drop, List.length_take]; rfl)) ?_; (with_reducible refine (spec_l1Cur_among.calls g s0_0 t772 t773 _ _ y774 t777 t778 t779 w0 _ ?side1 ?side2 ?side3 ?side4 ?side5 A12.out).mono ?_); (case side1 => repeat (first | (with_reducible first | exact HI0.out | apply IsS87.alloc | apply IsS87.drewN | apply IsS87.drew | apply IsS87.set_1 | apply IsS87.set_2) | exact HI0.out)); (case side2 => repeat (first | (with_reducible first | exact HB.out | apply below_alloc | apply pw_below_drewN | apply below_drew1 | refine below_set ?_ (IsS87.ge HI0.out)) | exact HB.out)); (case side3 => repeat (first | exact (Kd.R_reads' HO776.out).2.2 | (with_reducible refine Kd.C_alloc ?_ _) | (with_reducible refine Kd.C_drewN ?_ _) | (with_reducible refine Kd.C_drew ?_))); (case side4 => exact (Kd.R_reads' HO776.out).2.1); (case side5 => exact far_slice (IsS87.own_ne HI0.out HO776.out (by decide))); rintro e w22 ⟨rfl, hi, hb, hk⟩; refine ⟨_, rfl, ?_⟩; have n0_ := Aside0.mk (Kd.R_mono (Kd.R_keep (IsS87.apart (show IsS87 w0 _ g s0_0 t772 t773 from by repeat (first | (with_reducible first | exact HI0.out | apply IsS87.alloc | apply IsS87.drewN | apply IsS87.drew | apply IsS87.set_1 | apply IsS87.set_2) | exact HI0.out)) (by (with_reducible repeat (first | apply Kd.R_alloc | apply Kd.R_drewN | apply Kd.R_drew)); exact HO_5.out) (by decide)) hk (fun _ h => h.2)) (fun _ h => h.1)); have n1_ := Aside0.mk (Kd.R_mono (Kd.R_keep (IsS87.apart (show IsS87 w0 _ g s0_0 t772 t773 from by repeat (first | (with_reducible first | exact HI0.out | apply IsS87.alloc | apply IsS87.drewN | apply IsS87.drew | apply IsS87.set_1 | apply IsS87.set_2) | exact HI0.out)) (by (with_reducible repeat (first | apply Kd.R_alloc | apply Kd.R_drewN | apply Kd.R_drew)); exact HO776.out) (by decide)) hk (fun _ h => h.2)) (fun _ h => h.1)); have n2_ := Aside0.mk (KeepBut.trans (by repeat (first | (with_reducible first | exact HK.out | apply KeepBut.set_ | apply keep_drewN | apply keep_drew | apply keep_alloc) | exact HK.out)) hk (.inl rfl)); have n3_ := Aside0.mk (hb); have n4_ := Aside0.mk (hi); clear HO_5; clear HO776; clear HK; clear HB; clear HI0; have HO_5 := n0_; have HO776 := n1_; have HK := n2_; have HB := n3_; have HI0 := n4_; clear n0_ n1_ n2_ n3_ n4_; (try clear hb); (try clear hb2); (try clear hk); (try clear hi); have p15 : 0 ≤ (t771 : Int) := of_decide_eq_true (by first | (with_reducible assumption) | assumption); have q15 : (t771 : Int) < ((x5_1.length : Int) : Int) := of_decide_eq_true (by first | (with_reducible assumption) | assumption); obtain ⟨go15, co15, eo15, gb15, gl15, cl15, HG15⟩ := Kd.R_form HO_5.out (by omega); (first | cases eo15 | (injection eo15 with ea_ en_ ec_; (first | subst ea_ | (injection ea_ with ea_; subst ea_)); subst ec_; clear en_)); have GB15 := Aside0.mk gb15; have GG15 := Aside0.mk HG15; clear gb15 gl15 HG15; obtain ⟨hx15_0, hf15_0⟩ := Kd.R_celln 0 HO_5.out (t771 : Int) p15 q15; replace p15 := eq_true p15; replace q15 := eq_true q15; have n_ := Aside0.mk (Kd.R_mono (ok' := (fun k_ => some k_ ≠ (.slice Ao21 y774.length co21 : Value).ownBlock)) HO_5.out (fun k_ hk => hk.2)); clear HO_5; have HO_5 := n_; clear n_; obtain ⟨hy23_, hz23_⟩ := Kd.R_celln 0 HO_5.out (t771 : Int) (of_decide_eq_true (by first | (with_reducible assumption) | assumption)) (of_decide_eq_true (by first | (with_reducible assumption) | assumption)); have HP23 := Kd.R_putg HO_5.out (t771 : Int) t777) | ((with_reducible refine gate_store (t := 3) (p := 27) rfl ?_); refine store_event (t := 3) (p := 27) (v := ?vo_w24) (w1 := (w22.setCell ⟨go15, (t771 : Int).toNat, none⟩ (.int .i64 t777))) ?hg ?ho ?hn ?hr ?_; (case ho => rfl); (case hg => rfl); (case hn => rfl); (case hr => first | (go_simp; done) | (go_simp; rfl)); intro w24 hw; have hg : w22.grownBy w24 (some go15) := (by rw [hw]; exact HP23.2); have hp_ : Kd.R (Kd.int .i64) 3 w24 w.heap.size (fun k_ => some k_ ≠ (.slice Ao21 y774.length co21 : Value).ownBlock) (.slice (some ⟨go15, 0, none⟩) x5_1.length co16) y780 := (by rw [hw, Ny780.out]; exact HP23.1); clear HP23; have n0_ := Aside0.mk (hp_); have n1_ := Aside0.mk (IsS87.grown (by repeat (first | (with_reducible first | exact HI0.out | apply IsS87.alloc | apply IsS87.drewN | apply IsS87.drew | apply IsS87.set_1 | apply IsS87.set_2) | exact HI0.out)) hg (IsS87.own_ne HI0.out HO_5.out (by decide))); have n2_ := Aside0.mk (Kd.R_after (v := (.slice (some ⟨go15, 0, none⟩) x5_1.length co16)) (v1 := (.slice (some ⟨go15, 0, none⟩) x5_1.length co16)) (ok := (fun _ => True)) (by (with_reducible repeat (first | apply Kd.R_alloc | apply Kd.R_drewN | apply Kd.R_drew)); exact HO776.out) hg (.inl rfl)); have n3_ := Aside0.mk ((by rw [hw]; exact below_set (HB.out) (Nat.le_trans HL.out GB15.out) : Below w0.heap.size w0 w24)); have n4_ := Aside0.mk (KeepBut.trans (by repeat (first | (with_reducible first | exact HK.out | apply KeepBut.set_ | apply keep_drewN | apply keep_drew | apply keep_alloc) | exact HK.out)) (KeepBut.of_grown hg g) (Kd.R_base2 HO_5.out)); clear HO_5; clear HI0; clear HO776; clear HB; clear HK; have HO_5 := n0_; have HI0 := n1_; have HO776 := n2_; have HB := n3_; have HK := n4_; clear n0_ n1_ n2_ n3_ n4_; clear hg hw hp_))
       go_ret
       exact ⟨_, by first | rfl | (simp [errW_none, errW_some] <;> rfl) | (simp [*, errW_none, errW_some] <;> rfl), by (with_reducible repeat (first | apply Kd.R_alloc | apply Kd.R_drewN | apply Kd.R_drew)); exact Kd.R_mono HO_5.out (fun _ hk => trivial), by repeat (first | (with_reducible first | exact HI0.out | apply IsS87.alloc | apply IsS87.drewN | apply IsS87.drew | apply IsS87.set_1 | apply IsS87.set_2) | exact HI0.out), by repeat (first | (with_reducible first | exact HB.out | apply below_alloc | apply pw_below_drewN | apply below_drew1 | refine below_set ?_ (IsS87.ge HI0.out)) | exact HB.out), by repeat (first | (with_reducible first | exact HK.out | apply KeepBut.set_ | apply keep_drewN | apply keep_drew | apply keep_alloc) | exact HK.out)⟩
      ·rw [if_neg c14] at H
       exact absurd H (by simp)
     ·rw [if_neg c13] at H
      exact absurd H (by simp)
    ·rw [if_neg c10] at H
     have c10b0 : (t768 == 0) = false := beq_eq_false_iff_ne.mpr c10
     have c10b1 : (t768 != 0) = true := bne_iff_ne.mpr c10
     by_cases c25 : t768 = 1
     ·rw [if_pos c25] at H
      have c25b0 : (t768 == 1) = true := beq_iff_eq.mpr c25
      have c25b1 : (t768 != 1) = false := bne_eq_false_iff_eq.mpr c25
      clear c25
      by_cases c26 : x5_1.length < 17592186044416
      ·rw [if_pos c26] at H
       have LMc26 := Aside0.mk c26
       clear c26
       obtain ⟨y781, hy781⟩ : ∃ y_ : List Int, y_ = (x5_1 ++ [2]) := ⟨_, rfl⟩
       replace H : (some (y781, t769, t770)) = some (r1, r2, r3) := by first | (rw [hy781]; with_reducible exact H) | (have H2_ := (Option.bind_some _ _).symm.trans H; rw [hy781]; with_reducible exact H2_) | (have H2_ := (Option.bind_some _ _).symm.trans H; with_reducible exact H2_) | with_reducible exact H | (rw [hy781]; exact H) | exact H
       have Ny781 := Aside0.mk hy781
       clear hy781
       simp only [Option.some.injEq, Prod.mk.injEq] at H
       obtain ⟨rfl, rfl, rfl⟩ := H
       obtain ⟨Ao27, co27, eo27⟩ := Kd.R_slice HO_5.out
       subst eo27
       go_wp2_with (first | ((with_reducible refine gate_callee (f := 146) rfl ?_); refine goesL_ (some 17) rfl rfl Try.func146 (by kernel_rfl) rfl #[.pointer (some ⟨g, 0, none⟩), .int .i64 14] rfl (by (try simp only [List.map_toArray, List.map_cons, List.map_nil]); first | done | rfl | (simp only [List.length_drop, List.length_take]; rfl)) ?_; (with_reducible refine (spec_l1Cur_pick.calls g s0_0 x1001_1 x1002_1 14 t768 t769 t770 w0 _ ?side1 ?side2 A9.out).mono ?_); (case side1 => repeat (first | (with_reducible first | exact HI0.out | apply IsS87.alloc | apply IsS87.drewN | apply IsS87.drew | apply IsS87.set_1 | apply IsS87.set_2) | exact HI0.out)); (case side2 => repeat (first | (with_reducible first | exact HB.out | apply below_alloc | apply pw_below_drewN | apply below_drew1 | refine below_set ?_ (IsS87.ge HI0.out)) | exact HB.out)); rintro e w28 ⟨rfl, hi, hb, hk⟩; refine ⟨_, rfl, ?_⟩; have n0_ := Aside0.mk (Kd.R_mono (Kd.R_keep (IsS87.apart (show IsS87 w0 _ g s0_0 x1001_1 x1002_1 from by repeat (first | (with_reducible first | exact HI0.out | apply IsS87.alloc | apply IsS87.drewN | apply IsS87.drew | apply IsS87.set_1 | apply IsS87.set_2) | exact HI0.out)) (by (with_reducible repeat (first | apply Kd.R_alloc | apply Kd.R_drewN | apply Kd.R_drew)); exact HO_5.out) (by decide)) hk (fun _ h => h.2)) (fun _ h => h.1)); have n1_ := Aside0.mk (KeepBut.trans (by repeat (first | (with_reducible first | exact HK.out | apply KeepBut.set_ | apply keep_drewN | apply keep_drew | apply keep_alloc) | exact HK.out)) hk (.inl rfl)); have n2_ := Aside0.mk (hb); have n3_ := Aside0.mk (hi); clear HO_5; clear HK; clear HB; clear HI0; have HO_5 := n0_; have HK := n1_; have HB := n2_; have HI0 := n3_; clear n0_ n1_ n2_ n3_; (try clear hb); (try clear hb2); (try clear hk); (try clear hi)) | ((with_reducible refine gate_builtin (b := .append) (xs := #[.tmp 30, .tmp 31]) rfl ?_); at_builtin; refine Kd.R_append (Kd.int .i64) w.heap.size rfl (.tmp 30) (.tmp 31) 24 3 (.int .i64 0) 8 rfl Try.underlying24 info3 rfl (by decide) (by omega) (.slice Ao27 x5_1.length co27) x5_1 2 [.int .i64 2] (fun _ => True) (fun _ => False) rfl rfl ?aP (fun _ hk => hk.elim) ?aF ?aO (Below.refl _ _) ?aS ?aL ?_; (case aP => exact rfl); (case aF => exact (fun _ _ => trivial)); (case aO => exact (by (with_reducible repeat (first | apply Kd.R_alloc | apply Kd.R_drewN | apply Kd.R_drew)); exact HO_5.out)); (case aS => exact (keep_size (w := w) (g := g) (row := none) (by repeat (first | (with_reducible first | exact HK.out | apply KeepBut.set_ | apply keep_drewN | apply keep_drew | apply keep_alloc) | exact HK.out)))); (case aL => have := LMc26.out; omega); intro v782 w29 ho hb hg hat; rw [← Ny781.out] at ho; have n0_ := Aside0.mk (IsS87.grown (by repeat (first | (with_reducible first | exact HI0.out | apply IsS87.alloc | apply IsS87.drewN | apply IsS87.drew | apply IsS87.set_1 | apply IsS87.set_2) | exact HI0.out)) hg (IsS87.own_ne HI0.out HO_5.out (by decide))); have n1_ := Aside0.mk (below_weaken (by repeat (first | (with_reducible first | exact HB.out | apply below_alloc | apply pw_below_drewN | apply below_drew1 | refine below_set ?_ (IsS87.ge HI0.out)) | exact HB.out)) HL.out hb); have n2_ := Aside0.mk (KeepBut.trans (by repeat (first | (with_reducible first | exact HK.out | apply KeepBut.set_ | apply keep_drewN | apply keep_drew | apply keep_alloc) | exact HK.out)) (KeepBut.of_grown hg g) (Kd.R_base2 HO_5.out)); have n3_ := Aside0.mk (ho); clear HI0; clear HB; clear HK; clear HO_5; have HI0 := n0_; have HB := n1_; have HK := n2_; have HO783 := n3_; clear n0_ n1_ n2_ n3_; clear ho hb hg hat))
       go_ret
       exact ⟨_, by first | rfl | (simp [errW_none, errW_some] <;> rfl) | (simp [*, errW_none, errW_some] <;> rfl), by (with_reducible repeat (first | apply Kd.R_alloc | apply Kd.R_drewN | apply Kd.R_drew)); exact HO783.out, by repeat (first | (with_reducible first | exact HI0.out | apply IsS87.alloc | apply IsS87.drewN | apply IsS87.drew | apply IsS87.set_1 | apply IsS87.set_2) | exact HI0.out), by repeat (first | (with_reducible first | exact HB.out | apply below_alloc | apply pw_below_drewN | apply below_drew1 | refine below_set ?_ (IsS87.ge HI0.out)) | exact HB.out), by repeat (first | (with_reducible first | exact HK.out | apply KeepBut.set_ | apply keep_drewN | apply keep_drew | apply keep_alloc) | exact HK.out)⟩
      ·rw [if_neg c26] at H
       exact absurd H (by simp)
     ·rw [if_neg c25] at H
      have c25b0 : (t768 == 1) = false := beq_eq_false_iff_ne.mpr c25
      have c25b1 : (t768 != 1) = true := bne_iff_ne.mpr c25
      simp only [Option.some.injEq, Prod.mk.injEq] at H
      obtain ⟨rfl, rfl, rfl⟩ := H
      obtain ⟨Ao30, co30, eo30⟩ := Kd.R_slice HO_5.out
      subst eo30
      go_wp2_with (first | ((with_reducible refine gate_callee (f := 146) rfl ?_); refine goesL_ (some 17) rfl rfl Try.func146 (by kernel_rfl) rfl #[.pointer (some ⟨g, 0, none⟩), .int .i64 14] rfl (by (try simp only [List.map_toArray, List.map_cons, List.map_nil]); first | done | rfl | (simp only [List.length_drop, List.length_take]; rfl)) ?_; (with_reducible refine (spec_l1Cur_pick.calls g s0_0 x1001_1 x1002_1 14 t768 t769 t770 w0 _ ?side1 ?side2 A9.out).mono ?_); (case side1 => repeat (first | (with_reducible first | exact HI0.out | apply IsS87.alloc | apply IsS87.drewN | apply IsS87.drew | apply IsS87.set_1 | apply IsS87.set_2) | exact HI0.out)); (case side2 => repeat (first | (with_reducible first | exact HB.out | apply below_alloc | apply pw_below_drewN | apply below_drew1 | refine below_set ?_ (IsS87.ge HI0.out)) | exact HB.out)); rintro e w31 ⟨rfl, hi, hb, hk⟩; refine ⟨_, rfl, ?_⟩; have n0_ := Aside0.mk (Kd.R_mono (Kd.R_keep (IsS87.apart (show IsS87 w0 _ g s0_0 x1001_1 x1002_1 from by repeat (first | (with_reducible first | exact HI0.out | apply IsS87.alloc | apply IsS87.drewN | apply IsS87.drew | apply IsS87.set_1 | apply IsS87.set_2) | exact HI0.out)) (by (with_reducible repeat (first | apply Kd.R_alloc | apply Kd.R_drewN | apply Kd.R_drew)); exact HO_5.out) (by decide)) hk (fun _ h => h.2)) (fun _ h => h.1)); have n1_ := Aside0.mk (KeepBut.trans (by repeat (first | (with_reducible first | exact HK.out | apply KeepBut.set_ | apply keep_drewN | apply keep_drew | apply keep_alloc) | exact HK.out)) hk (.inl rfl)); have n2_ := Aside0.mk (hb); have n3_ := Aside0.mk (hi); clear HO_5; clear HK; clear HB; clear HI0; have HO_5 := n0_; have HK := n1_; have HB := n2_; have HI0 := n3_; clear n0_ n1_ n2_ n3_; (try clear hb); (try clear hb2); (try clear hk); (try clear hi)))
      go_ret
      exact ⟨_, by first | rfl | (simp [errW_none, errW_some] <;> rfl) | (simp [*, errW_none, errW_some] <;> rfl), by (with_reducible repeat (first | apply Kd.R_alloc | apply Kd.R_drewN | apply Kd.R_drew)); exact HO_5.out, by repeat (first | (with_reducible first | exact HI0.out | apply IsS87.alloc | apply IsS87.drewN | apply IsS87.drew | apply IsS87.set_1 | apply IsS87.set_2) | exact HI0.out), by repeat (first | (with_reducible first | exact HB.out | apply below_alloc | apply pw_below_drewN | apply below_drew1 | refine below_set ?_ (IsS87.ge HI0.out)) | exact HB.out), by repeat (first | (with_reducible first | exact HK.out | apply KeepBut.set_ | apply keep_drewN | apply keep_drew | apply keep_alloc) | exact HK.out)⟩


def spec_DrawGiftTerms.j0 : Nat → Int → List Int → List Int → Int → Int → Int → Int → Int → Option (List Int × Int × Int × Int × List Int)
 | 0, _, _, _, _, _, _, _, _ => none
 | k + 1, x6, x7, x786000, x786001, x786002, x801000, x801001, x801002 => (spec_l1Cur_one.f x786000 x786001 x786002 10).bind fun bt803 => (if bt803.1 = true then ((spec_l1Cur_arguments.f k x786000 bt803.2.1 bt803.2.2 x6).bind fun bt806 => (some (x7, x801000, x801001, 2, bt806.1))) else ((spec_l1Cur_arguments.f k x786000 bt803.2.1 bt803.2.2 x6).bind fun bt811 => (some (x7, x801000, x801001, x801002, bt811.1))))
def spec_DrawGiftTerms.f (k : Nat) (l0 : List Int) : Option (List Int × Int × Int × Int × List Int) := (spec_l1Cur_many.f l0 0 0).bind fun bt786 => ((spec_l1Cur_powers.f k l0 bt786.2.1 bt786.2.2 bt786.1).bind fun bt789 => ((spec_l1Cur_pick.f l0 bt789.2.1 bt789.2.2 bt786.1).bind fun bt794 => ((spec_l1Cur_pick.f l0 bt794.2.1 bt794.2.2 bt786.1).bind fun bt797 => (if 0 ≤ bt794.1 then (if bt794.1 < (bt789.1.length : Int) then (if 0 ≤ bt797.1 then (if bt797.1 < (bt789.1.length : Int) then (if (rd bt789.1 bt794.1) < (rd bt789.1 bt797.1) then (spec_DrawGiftTerms.j0 k bt786.1 bt789.1 l0 bt797.2.1 bt797.2.2 bt797.1 bt794.1 1) else (spec_DrawGiftTerms.j0 k bt786.1 bt789.1 l0 bt797.2.1 bt797.2.2 bt794.1 bt797.1 1)) else (none)) else (none)) else (none)) else (none)))))
theorem spec_DrawGiftTerms.mono_l : ∀ k, (∀ y0 y1 y2 y3 y4 y5 y6 y7, LeO (spec_DrawGiftTerms.j0 k y0 y1 y2 y3 y4 y5 y6 y7) (spec_DrawGiftTerms.j0 (k + 1) y0 y1 y2 y3 y4 y5 y6 y7))
 | 0 => fun _ _ _ _ _ _ _ _ r h => by simp [spec_DrawGiftTerms.j0] at h
 | k + 1 => by
  have ih0 := spec_DrawGiftTerms.mono_l k
  ·intro y0 y1 y2 y3 y4 y5 y6 y7
   unfold spec_DrawGiftTerms.j0
   repeat' first
   | (with_reducible exact ih0 _ _ _ _ _ _ _ _)
   | (with_reducible exact spec_l1Cur_arguments.mono _ _ _ _ _)
   | (with_reducible exact spec_l1Cur_powers.mono _ _ _ _ _)
   | (with_reducible exact LeO.refl _)
   | (with_reducible exact LeO.none _)
   | (with_reducible refine LeO.ite ?_ ?_)
   | (with_reducible refine LeO.bind ?_ (fun _ => ?_))
   | exact ih0 _ _ _ _ _ _ _ _
   | exact spec_l1Cur_arguments.mono _ _ _ _ _
   | exact spec_l1Cur_powers.mono _ _ _ _ _
   | exact LeO.none _
   | refine LeO.ite ?_ ?_
   | refine LeO.bind ?_ (fun _ => ?_)
theorem spec_DrawGiftTerms.mono : ∀ a0 k, LeO (spec_DrawGiftTerms.f k a0) (spec_DrawGiftTerms.f (k + 1) a0) := by
 intro a0 k
 have ih0 := spec_DrawGiftTerms.mono_l k
 unfold spec_DrawGiftTerms.f
 repeat' first
   | (with_reducible exact ih0 _ _ _ _ _ _ _ _)
   | (with_reducible exact spec_l1Cur_arguments.mono _ _ _ _ _)
   | (with_reducible exact spec_l1Cur_powers.mono _ _ _ _ _)
   | (with_reducible exact LeO.refl _)
   | (with_reducible exact LeO.none _)
   | (with_reducible refine LeO.ite ?_ ?_)
   | (with_reducible refine LeO.bind ?_ (fun _ => ?_))
   | exact ih0 _ _ _ _ _ _ _ _
   | exact spec_l1Cur_arguments.mono _ _ _ _ _
   | exact spec_l1Cur_powers.mono _ _ _ _ _
   | exact LeO.none _
   | refine LeO.ite ?_ ?_
   | refine LeO.bind ?_ (fun _ => ?_)
def spec_DrawGiftTerms.T5 : Bool × List (List Nat × List Nat) := (true, [([], []), ([], []), ([1], [1]), ([0, 2], [0, 2]), ([3], [3]), ([], []), ([], []), ([6], [6]), ([5, 7], [5, 7]), ([8], [8]), ([4, 9], [4, 9])])
def spec_DrawGiftTerms.B5 : List Nat := [0, 0, 2, 7, 15, 0, 0, 64, 224, 480, 1023]
theorem spec_DrawGiftTerms.tab5 : rtab .any (opsOf Try.f56 5) = spec_DrawGiftTerms.T5 := by kernel_rfl
theorem spec_DrawGiftTerms.bits5 : waitsOk spec_DrawGiftTerms.T5.2 spec_DrawGiftTerms.B5 = true := by kernel_rfl
def spec_DrawGiftTerms.T9 : Bool × List (List Nat × List Nat) := (true, [([], []), ([], []), ([], []), ([], []), ([2, 3], [2, 3]), ([0, 4, 0], [0]), ([1, 5, 0, 1, 5], [1]), ([4, 6, 0, 1, 2, 3, 4, 5, 6], [4])])
def spec_DrawGiftTerms.B9 : List Nat := [0, 0, 0, 0, 12, 29, 63, 127]
theorem spec_DrawGiftTerms.tab9 : rtab .any (opsOf Try.f56 9) = spec_DrawGiftTerms.T9 := by kernel_rfl
theorem spec_DrawGiftTerms.bits9 : waitsOk spec_DrawGiftTerms.T9.2 spec_DrawGiftTerms.B9 = true := by kernel_rfl
set_option maxHeartbeats 8000000 in
set_option maxRecDepth 100000 in
theorem spec_DrawGiftTerms.calls (k : Nat) (A0 : Option Addr) (c0 : Nat) (l0 : List Int) (r1 : List Int) (r2 : Int) (r3 : Int) (r4 : Int) (r5 : List Int) (w : World) (hr0 : Kd.C (Kd.int .u8) w A0 l0.length l0) (hc0 : l0.length ≤ c0) (h : spec_DrawGiftTerms.f k l0 = some (r1, r2, r3, r4, r5)) :
  Calls Try.prog 56 #[.slice A0 l0.length c0] w fun e w' => ∃ v0_ v4_ : Value, e = .returned (.tuple #[v0_, .agg #[.int .i64 r2, .int .i64 r3, .int .i64 r4], v4_]) ∧ Kd.R (Kd.int .i64) 3 w' w.heap.size (fun k_ => some k_ ≠ (v4_ : Value).ownBlock) v0_ r1 ∧ Kd.R (Kd.int .i64) 3 w' w.heap.size (fun k_ => some k_ ≠ (v0_ : Value).ownBlock) v4_ r5 ∧ Below w.heap.size w w' := by
 have hu52 := Try.underlying52
 have hu87 := Try.underlying87
 have HR0 := Aside0.mk hr0
 have HC0 := Aside0.mk hc0
 clear hr0 hc0
 have HB := Aside0.mk (Below.refl w.heap.size w)
 have H : ((spec_l1Cur_many.f l0 0 0).bind fun bt786 => ((spec_l1Cur_powers.f k l0 bt786.2.1 bt786.2.2 bt786.1).bind fun bt789 => ((spec_l1Cur_pick.f l0 bt789.2.1 bt789.2.2 bt786.1).bind fun bt794 => ((spec_l1Cur_pick.f l0 bt794.2.1 bt794.2.2 bt786.1).bind fun bt797 => (if 0 ≤ bt794.1 then (if bt794.1 < (bt789.1.length : Int) then (if 0 ≤ bt797.1 then (if bt797.1 < (bt789.1.length : Int) then (if (rd bt789.1 bt794.1) < (rd bt789.1 bt797.1) then (spec_DrawGiftTerms.j0 k bt786.1 bt789.1 l0 bt797.2.1 bt797.2.2 bt797.1 bt794.1 1) else (spec_DrawGiftTerms.j0 k bt786.1 bt789.1 l0 bt797.2.1 bt797.2.2 bt794.1 bt797.1 1)) else (none)) else (none)) else (none)) else (none)))))) = some (r1, r2, r3, r4, r5) := h
 clear h
 replace H := Option.bind_eq_some_iff.mp H
 obtain ⟨⟨t786, t787, t788⟩, A20, H⟩ := H
 replace H : ((spec_l1Cur_powers.f k l0 t787 t788 t786).bind fun bt789 => ((spec_l1Cur_pick.f l0 bt789.2.1 bt789.2.2 t786).bind fun bt794 => ((spec_l1Cur_pick.f l0 bt794.2.1 bt794.2.2 t786).bind fun bt797 => (if 0 ≤ bt794.1 then (if bt794.1 < (bt789.1.length : Int) then (if 0 ≤ bt797.1 then (if bt797.1 < (bt789.1.length : Int) then (if (rd bt789.1 bt794.1) < (rd bt789.1 bt797.1) then (spec_DrawGiftTerms.j0 k t786 bt789.1 l0 bt797.2.1 bt797.2.2 bt797.1 bt794.1 1) else (spec_DrawGiftTerms.j0 k t786 bt789.1 l0 bt797.2.1 bt797.2.2 bt794.1 bt797.1 1)) else (none)) else (none)) else (none)) else (none))))) = some (r1, r2, r3, r4, r5) := H
 have A2 := Aside0.mk A20
 clear A20
 replace H := Option.bind_eq_some_iff.mp H
 obtain ⟨⟨t789, t792, t793⟩, A30, H⟩ := H
 replace H : ((spec_l1Cur_pick.f l0 t792 t793 t786).bind fun bt794 => ((spec_l1Cur_pick.f l0 bt794.2.1 bt794.2.2 t786).bind fun bt797 => (if 0 ≤ bt794.1 then (if bt794.1 < (t789.length : Int) then (if 0 ≤ bt797.1 then (if bt797.1 < (t789.length : Int) then (if (rd t789 bt794.1) < (rd t789 bt797.1) then (spec_DrawGiftTerms.j0 k t786 t789 l0 bt797.2.1 bt797.2.2 bt797.1 bt794.1 1) else (spec_DrawGiftTerms.j0 k t786 t789 l0 bt797.2.1 bt797.2.2 bt794.1 bt797.1 1)) else (none)) else (none)) else (none)) else (none)))) = some (r1, r2, r3, r4, r5) := H
 have A3 := Aside0.mk A30
 clear A30
 replace H := Option.bind_eq_some_iff.mp H
 obtain ⟨⟨t794, t795, t796⟩, A40, H⟩ := H
 replace H : ((spec_l1Cur_pick.f l0 t795 t796 t786).bind fun bt797 => (if 0 ≤ t794 then (if t794 < (t789.length : Int) then (if 0 ≤ bt797.1 then (if bt797.1 < (t789.length : Int) then (if (rd t789 t794) < (rd t789 bt797.1) then (spec_DrawGiftTerms.j0 k t786 t789 l0 bt797.2.1 bt797.2.2 bt797.1 t794 1) else (spec_DrawGiftTerms.j0 k t786 t789 l0 bt797.2.1 bt797.2.2 t794 bt797.1 1)) else (none)) else (none)) else (none)) else (none))) = some (r1, r2, r3, r4, r5) := H
 have A4 := Aside0.mk A40
 clear A40
 replace H := Option.bind_eq_some_iff.mp H
 obtain ⟨⟨t797, t798, t799⟩, A50, H⟩ := H
 replace H : (if 0 ≤ t794 then (if t794 < (t789.length : Int) then (if 0 ≤ t797 then (if t797 < (t789.length : Int) then (if (rd t789 t794) < (rd t789 t797) then (spec_DrawGiftTerms.j0 k t786 t789 l0 t798 t799 t797 t794 1) else (spec_DrawGiftTerms.j0 k t786 t789 l0 t798 t799 t794 t797 1)) else (none)) else (none)) else (none)) else (none)) = some (r1, r2, r3, r4, r5) := H
 have A5 := Aside0.mk A50
 clear A50
 by_cases c6 : 0 ≤ t794
 ·rw [if_pos c6] at H
  have c6b0 : decide (0 ≤ t794) = true := decide_eq_true c6
  clear c6
  by_cases c7 : t794 < (t789.length : Int)
  ·rw [if_pos c7] at H
   have c7b0 : decide (t794 < (t789.length : Int)) = true := decide_eq_true c7
   clear c7
   by_cases c8 : 0 ≤ t797
   ·rw [if_pos c8] at H
    have c8b0 : decide (0 ≤ t797) = true := decide_eq_true c8
    clear c8
    by_cases c9 : t797 < (t789.length : Int)
    ·rw [if_pos c9] at H
     have c9b0 : decide (t797 < (t789.length : Int)) = true := decide_eq_true c9
     clear c9
     have HC10 := Aside0.mk H
     clear H
     go_enter Try.func56, Try.ntmps56
     try go_wp2_with (first | ((with_reducible refine gate_dst (N := 3) rfl ?_); refine box_event ?hg (N := 3) ?hd (cs := #[.int .i64 0, .int .i64 0, .int .i64 0]) (t := 52) ?hr ?_; (case hd => rfl); (case hg => rfl); (case hr => first | (go_simp; done) | (go_simp; rfl)); intro gb784 hg w11 hbox hb; have n0_ := Aside0.mk (below_step (by repeat (first | (with_reducible first | exact HB.out | apply below_alloc | apply pw_below_drewN | apply below_drew1) | exact HB.out)) hb); have n1_ := Aside0.mk (hbox); have n2_ := Aside0.mk ((by rw [hg]; exact (below_size (by repeat (first | (with_reducible first | exact HB.out | apply below_alloc | apply pw_below_drewN | apply below_drew1) | exact HB.out))) : w.heap.size ≤ gb784)); have n3_ := Aside0.mk ((by rw [hg]; exact (below_size (by repeat (first | (with_reducible first | exact HB.out | apply below_alloc | apply pw_below_drewN | apply below_drew1) | exact HB.out))) : w.heap.size ≤ gb784)); clear HB; have HB := n0_; have BK784 := n1_; have GW784 := n2_; have GE784 := n3_; clear n0_ n1_ n2_ n3_; clear hb hbox hg) | ((with_reducible refine gate_dst (N := 11) rfl ?_); refine box_event ?hg (N := 11) ?hd (cs := #[.slice A0 l0.length c0, .int .i64 0, .int .u64 0]) (t := 87) ?hr ?_; (case hd => rfl); (case hg => rfl); (case hr => first | (go_simp; done) | (go_simp; rfl)); intro gb785 hg w12 hbox hb; have n0_ := Aside0.mk (blk_below (g := gb784) (o := .cells #[.int .i64 0, .int .i64 0, .int .i64 0] 52 (0, 0)) (by (with_reducible repeat (first | refine blk_drewN ?_ _ | refine blk_drew ?_ | refine blk_alloc ?_ _)); exact BK784.out) hb); have n1_ := Aside0.mk (below_step (by repeat (first | (with_reducible first | exact HB.out | apply below_alloc | apply pw_below_drewN | apply below_drew1 | refine below_set ?_ GE784.out) | exact HB.out)) hb); have n2_ := Aside0.mk (hbox); have n3_ := Aside0.mk ((by rw [hg]; exact (below_size (by repeat (first | (with_reducible first | exact HB.out | apply below_alloc | apply pw_below_drewN | apply below_drew1 | refine below_set ?_ GE784.out) | exact HB.out))) : w.heap.size ≤ gb785)); have n4_ := Aside0.mk ((by rw [hg]; exact (below_size (by repeat (first | (with_reducible first | exact HB.out | apply below_alloc | apply pw_below_drewN | apply below_drew1 | refine below_set ?_ GE784.out) | exact HB.out))) : w.heap.size ≤ gb785)); have n5_ := Aside0.mk ((by rw [hg]; exact Nat.ne_of_lt (blk_lt (g := gb784) (o := .cells #[.int .i64 0, .int .i64 0, .int .i64 0] 52 (0, 0)) (by (with_reducible repeat (first | refine blk_drewN ?_ _ | refine blk_drew ?_ | refine blk_alloc ?_ _)); exact BK784.out)) : gb784 ≠ gb785)); have n6_ := Aside0.mk ((by rw [hg]; exact Nat.ne_of_gt (blk_lt (g := gb784) (o := .cells #[.int .i64 0, .int .i64 0, .int .i64 0] 52 (0, 0)) (by (with_reducible repeat (first | refine blk_drewN ?_ _ | refine blk_drew ?_ | refine blk_alloc ?_ _)); exact BK784.out)) : gb785 ≠ gb784)); clear BK784; clear HB; have BK784 := n0_; have HB := n1_; have BK785 := n2_; have GW785 := n3_; have GE785 := n4_; have NB784_785 := n5_; have NB785_784 := n6_; clear n0_ n1_ n2_ n3_ n4_ n5_ n6_; clear hb hbox hg) | ((with_reducible refine gate_callee (f := 144) rfl ?_); refine goesL_ (some 13) rfl rfl Try.func144 (by kernel_rfl) rfl #[.pointer (some ⟨gb785, 0, none⟩)] rfl (by (try simp only [List.map_toArray, List.map_cons, List.map_nil]); first | done | rfl | (simp only [List.length_drop, List.length_take]; rfl)) ?_; (with_reducible refine (spec_l1Cur_many.calls gb785 l0 0 0 t786 t787 t788 w _ ?side1 ?side2 A2.out).mono ?_); (case side1 => exact ⟨_, _, (by (with_reducible repeat (first | refine blk_drewN ?_ _ | refine blk_drew ?_ | refine blk_alloc ?_ _)); exact BK785.out), GE785.out, HR0.out⟩); (case side2 => repeat (first | (with_reducible first | exact HB.out | apply below_alloc | apply pw_below_drewN | apply below_drew1 | refine below_set ?_ GE785.out | refine below_set ?_ GE784.out) | exact HB.out)); rintro e w13 ⟨rfl, hi, hb, hk⟩; refine ⟨_, rfl, ?_⟩; have n0_ := Aside0.mk (KeepBut.blk hk (g' := gb784) (o := .cells #[.int .i64 0, .int .i64 0, .int .i64 0] 52 (0, 0)) (by (with_reducible repeat (first | refine blk_drewN ?_ _ | refine blk_drew ?_ | refine blk_alloc ?_ _)); exact BK784.out) NB784_785.out (by simp)); have n1_ := Aside0.mk (hb); have n2_ := Aside0.mk (hi); clear BK784; clear HB; have BK784 := n0_; have HB := n1_; have HI785 := n2_; clear n0_ n1_ n2_; (try clear hb); (try clear hb2); (try clear hk); (try clear hi)) | ((with_reducible refine gate_callee (f := 145) rfl ?_); refine goesL_ (some 16) rfl rfl Try.func145 (by kernel_rfl) rfl #[.pointer (some ⟨gb785, 0, none⟩), .int .i64 t786] rfl (by (try simp only [List.map_toArray, List.map_cons, List.map_nil]); first | done | rfl | (simp only [List.length_drop, List.length_take]; rfl)) ?_; (with_reducible refine (spec_l1Cur_powers.calls k gb785 l0 t787 t788 t786 t789 t792 t793 w _ ?side1 ?side2 A3.out).mono ?_); (case side1 => repeat (first | (with_reducible first | exact HI785.out | apply IsS87.alloc | apply IsS87.drewN | apply IsS87.drew | apply IsS87.set_1 | apply IsS87.set_2 | refine IsS87.far ?_ NB785_784.out _) | exact HI785.out)); (case side2 => repeat (first | (with_reducible first | exact HB.out | apply below_alloc | apply pw_below_drewN | apply below_drew1 | refine below_set ?_ (IsS87.ge HI785.out) | refine below_set ?_ GE784.out) | exact HB.out)); rintro e w14 ⟨v790, rfl, ho0, hi, hb, hk⟩; refine ⟨_, rfl, ?_⟩; have n0_ := Aside0.mk (KeepBut.blk hk (g' := gb784) (o := .cells #[.int .i64 0, .int .i64 0, .int .i64 0] 52 (0, 0)) (by (with_reducible repeat (first | refine blk_drewN ?_ _ | refine blk_drew ?_ | refine blk_alloc ?_ _)); exact BK784.out) NB784_785.out (by simp)); have n1_ := Aside0.mk (Kd.R_lower ho0 (below_size (by repeat (first | (with_reducible first | exact HB.out | apply below_alloc | apply pw_below_drewN | apply below_drew1 | refine below_set ?_ (IsS87.ge HI785.out) | refine below_set ?_ GE784.out) | exact HB.out)))); have n2_ := Aside0.mk (hb); have n3_ := Aside0.mk (hi); clear BK784; clear HB; clear HI785; have BK784 := n0_; have HO791 := n1_; have HB := n2_; have HI785 := n3_; clear n0_ n1_ n2_ n3_; (try clear hb); (try clear hb2); (try clear hk); (try clear hi); (try clear ho0)) | ((with_reducible refine gate_callee (f := 146) rfl ?_); refine goesL_ (some 19) rfl rfl Try.func146 (by kernel_rfl) rfl #[.pointer (some ⟨gb785, 0, none⟩), .int .i64 t786] rfl (by (try simp only [List.map_toArray, List.map_cons, List.map_nil]); first | done | rfl | (simp only [List.length_drop, List.length_take]; rfl)) ?_; (with_reducible refine (spec_l1Cur_pick.calls gb785 l0 t792 t793 t786 t794 t795 t796 w _ ?side1 ?side2 A4.out).mono ?_); (case side1 => repeat (first | (with_reducible first | exact HI785.out | apply IsS87.alloc | apply IsS87.drewN | apply IsS87.drew | apply IsS87.set_1 | apply IsS87.set_2 | refine IsS87.far ?_ NB785_784.out _) | exact HI785.out)); (case side2 => repeat (first | (with_reducible first | exact HB.out | apply below_alloc | apply pw_below_drewN | apply below_drew1 | refine below_set ?_ (IsS87.ge HI785.out) | refine below_set ?_ GE784.out) | exact HB.out)); rintro e w15 ⟨rfl, hi, hb, hk⟩; refine ⟨_, rfl, ?_⟩; have n0_ := Aside0.mk (KeepBut.blk hk (g' := gb784) (o := .cells #[.int .i64 0, .int .i64 0, .int .i64 0] 52 (0, 0)) (by (with_reducible repeat (first | refine blk_drewN ?_ _ | refine blk_drew ?_ | refine blk_alloc ?_ _)); exact BK784.out) NB784_785.out (by simp)); have n1_ := Aside0.mk (Kd.R_mono (Kd.R_keep (IsS87.apart (show IsS87 w _ gb785 l0 t792 t793 from by repeat (first | (with_reducible first | exact HI785.out | apply IsS87.alloc | apply IsS87.drewN | apply IsS87.drew | apply IsS87.set_1 | apply IsS87.set_2 | refine IsS87.far ?_ NB785_784.out _) | exact HI785.out)) (by (with_reducible repeat (first | apply Kd.R_alloc | apply Kd.R_drewN | apply Kd.R_drew)); exact HO791.out) (by decide)) hk (fun _ h => h.2)) (fun _ h => h.1)); have n2_ := Aside0.mk (hb); have n3_ := Aside0.mk (hi); clear BK784; clear HO791; clear HB; clear HI785; have BK784 := n0_; have HO791 := n1_; have HB := n2_; have HI785 := n3_; clear n0_ n1_ n2_ n3_; (try clear hb); (try clear hb2); (try clear hk); (try clear hi)) | ((with_reducible refine gate_callee (f := 146) rfl ?_); refine goesL_ (some 22) rfl rfl Try.func146 (by kernel_rfl) rfl #[.pointer (some ⟨gb785, 0, none⟩), .int .i64 t786] rfl (by (try simp only [List.map_toArray, List.map_cons, List.map_nil]); first | done | rfl | (simp only [List.length_drop, List.length_take]; rfl)) ?_; (with_reducible refine (spec_l1Cur_pick.calls gb785 l0 t795 t796 t786 t797 t798 t799 w _ ?side1 ?side2 A5.out).mono ?_); (case side1 => repeat (first | (with_reducible first | exact HI785.out | apply IsS87.alloc | apply IsS87.drewN | apply IsS87.drew | apply IsS87.set_1 | apply IsS87.set_2 | refine IsS87.far ?_ NB785_784.out _) | exact HI785.out)); (case side2 => repeat (first | (with_reducible first | exact HB.out | apply below_alloc | apply pw_below_drewN | apply below_drew1 | refine below_set ?_ (IsS87.ge HI785.out) | refine below_set ?_ GE784.out) | exact HB.out)); rintro e w16 ⟨rfl, hi, hb, hk⟩; refine ⟨_, rfl, ?_⟩; have n0_ := Aside0.mk (KeepBut.blk hk (g' := gb784) (o := .cells #[.int .i64 0, .int .i64 0, .int .i64 0] 52 (0, 0)) (by (with_reducible repeat (first | refine blk_drewN ?_ _ | refine blk_drew ?_ | refine blk_alloc ?_ _)); exact BK784.out) NB784_785.out (by simp)); have n1_ := Aside0.mk (Kd.R_mono (Kd.R_keep (IsS87.apart (show IsS87 w _ gb785 l0 t795 t796 from by repeat (first | (with_reducible first | exact HI785.out | apply IsS87.alloc | apply IsS87.drewN | apply IsS87.drew | apply IsS87.set_1 | apply IsS87.set_2 | refine IsS87.far ?_ NB785_784.out _) | exact HI785.out)) (by (with_reducible repeat (first | apply Kd.R_alloc | apply Kd.R_drewN | apply Kd.R_drew)); exact HO791.out) (by decide)) hk (fun _ h => h.2)) (fun _ h => h.1)); have n2_ := Aside0.mk (hb); have n3_ := Aside0.mk (hi); clear BK784; clear HO791; clear HB; clear HI785; have BK784 := n0_; have HO791 := n1_; have HB := n2_; have HI785 := n3_; clear n0_ n1_ n2_ n3_; (try clear hb); (try clear hb2); (try clear hk); (try clear hi)) | ((with_reducible refine gate_dst (N := 8) rfl ?_); refine box_event ?hg (N := 8) ?hd (cs := #[.int .i64 0, .int .i64 0, .int .i64 0]) (t := 52) ?hr ?_; (case hd => rfl); (case hg => rfl); (case hr => first | (go_simp; done) | (go_simp; rfl)); intro gb800 hg w17 hbox hb; have n0_ := Aside0.mk (Kd.R_below (by (with_reducible repeat (first | apply Kd.R_alloc | apply Kd.R_drewN | apply Kd.R_drew)); exact HO791.out) hb); have n1_ := Aside0.mk (blk_below (g := gb784) (o := .cells #[.int .i64 0, .int .i64 0, .int .i64 0] 52 (0, 0)) (by (with_reducible repeat (first | refine blk_drewN ?_ _ | refine blk_drew ?_ | refine blk_alloc ?_ _)); exact BK784.out) hb); have n2_ := Aside0.mk (IsS87.below (by repeat (first | (with_reducible first | exact HI785.out | apply IsS87.alloc | apply IsS87.drewN | apply IsS87.drew | apply IsS87.set_1 | apply IsS87.set_2 | refine IsS87.far ?_ NB785_784.out _) | exact HI785.out)) hb); have n3_ := Aside0.mk (below_step (by repeat (first | (with_reducible first | exact HB.out | apply below_alloc | apply pw_below_drewN | apply below_drew1 | refine below_set ?_ (IsS87.ge HI785.out) | refine below_set ?_ GE784.out) | exact HB.out)) hb); have n4_ := Aside0.mk (hbox); have n5_ := Aside0.mk ((by rw [hg]; exact (below_size (by repeat (first | (with_reducible first | exact HB.out | apply below_alloc | apply pw_below_drewN | apply below_drew1 | refine below_set ?_ (IsS87.ge HI785.out) | refine below_set ?_ GE784.out) | exact HB.out))) : w.heap.size ≤ gb800)); have n6_ := Aside0.mk ((by rw [hg]; exact (below_size (by repeat (first | (with_reducible first | exact HB.out | apply below_alloc | apply pw_below_drewN | apply below_drew1 | refine below_set ?_ (IsS87.ge HI785.out) | refine below_set ?_ GE784.out) | exact HB.out))) : w.heap.size ≤ gb800)); have n7_ := Aside0.mk ((by rw [hg]; exact Nat.ne_of_lt (blk_lt (g := gb784) (o := .cells #[.int .i64 0, .int .i64 0, .int .i64 0] 52 (0, 0)) (by (with_reducible repeat (first | refine blk_drewN ?_ _ | refine blk_drew ?_ | refine blk_alloc ?_ _)); exact BK784.out)) : gb784 ≠ gb800)); have n8_ := Aside0.mk ((by rw [hg]; exact Nat.ne_of_gt (blk_lt (g := gb784) (o := .cells #[.int .i64 0, .int .i64 0, .int .i64 0] 52 (0, 0)) (by (with_reducible repeat (first | refine blk_drewN ?_ _ | refine blk_drew ?_ | refine blk_alloc ?_ _)); exact BK784.out)) : gb800 ≠ gb784)); have n9_ := Aside0.mk ((by rw [hg]; exact Nat.ne_of_lt (IsS87.lt (show IsS87 w _ gb785 l0 t798 t799 from by repeat (first | (with_reducible first | exact HI785.out | apply IsS87.alloc | apply IsS87.drewN | apply IsS87.drew | apply IsS87.set_1 | apply IsS87.set_2 | refine IsS87.far ?_ NB785_784.out _) | exact HI785.out))) : gb785 ≠ gb800)); have n10_ := Aside0.mk ((by rw [hg]; exact Nat.ne_of_gt (IsS87.lt (show IsS87 w _ gb785 l0 t798 t799 from by repeat (first | (with_reducible first | exact HI785.out | apply IsS87.alloc | apply IsS87.drewN | apply IsS87.drew | apply IsS87.set_1 | apply IsS87.set_2 | refine IsS87.far ?_ NB785_784.out _) | exact HI785.out))) : gb800 ≠ gb785)); clear HO791; clear BK784; clear HI785; clear HB; have HO791 := n0_; have BK784 := n1_; have HI785 := n2_; have HB := n3_; have BK800 := n4_; have GW800 := n5_; have GE800 := n6_; have NB784_800 := n7_; have NB800_784 := n8_; have NB785_800 := n9_; have NB800_785 := n10_; clear n0_ n1_ n2_ n3_ n4_ n5_ n6_ n7_ n8_ n9_ n10_; clear hb hbox hg; have hnb18 := NB800_784.out; have hnc18 := NB784_800.out; have hnb19 := NB800_785.out; have hnc19 := NB785_800.out; have hcz20_0 : w17.cell? ⟨gb800, 0, none⟩ = some (.int .i64 0) := (blk_cell BK800.out 0).trans rfl; have hcz20_1 : w17.cell? ⟨gb800, 1, none⟩ = some (.int .i64 0) := (blk_cell BK800.out 1).trans rfl; have hcz20_2 : w17.cell? ⟨gb800, 2, none⟩ = some (.int .i64 0) := (blk_cell BK800.out 2).trans rfl; have hfz20_0 := blk_frozen BK800.out 0; have hfz20_1 := blk_frozen BK800.out 1; have hfz20_2 := blk_frozen BK800.out 2))
     have n0_ : Aside0 (Kd.R (Kd.int .i64) 3 (((w17.setCell ⟨gb800, 0, none⟩ (.int .i64 t794)).setCell ⟨gb800, 1, none⟩ (.int .i64 t797)).setCell ⟨gb800, 2, none⟩ (.int .i64 1)) w.heap.size (fun _ => True) v790 t789) := ⟨by (with_reducible repeat (first | apply Kd.R_alloc | apply Kd.R_drewN | apply Kd.R_drew)); exact Kd.R_mono (Kd.R_far (p := ⟨gb800, 2, none⟩) (Kd.R_far (p := ⟨gb800, 1, none⟩) (Kd.R_far (p := ⟨gb800, 0, none⟩) (Kd.R_types HO791.out BK800.out (by decide)) (fun _ hk => hk.2) (.int .i64 t794)) (fun _ hk => hk.2) (.int .i64 t797)) (fun _ hk => hk.2) (.int .i64 1)) (fun _ hk => trivial)⟩
     have n1_ : Aside0 ((((w17.setCell ⟨gb800, 0, none⟩ (.int .i64 t794)).setCell ⟨gb800, 1, none⟩ (.int .i64 t797)).setCell ⟨gb800, 2, none⟩ (.int .i64 1)).heap[gb784]? = some (.cells #[.int .i64 0, .int .i64 0, .int .i64 0] 52 (0, 0))) := ⟨by (with_reducible repeat (first | refine blk_drewN ?_ _ | refine blk_drew ?_ | refine blk_alloc ?_ _)); refine blk_far ?_ NB784_800.out _; (with_reducible repeat (first | refine blk_drewN ?_ _ | refine blk_drew ?_ | refine blk_alloc ?_ _)); refine blk_far ?_ NB784_800.out _; (with_reducible repeat (first | refine blk_drewN ?_ _ | refine blk_drew ?_ | refine blk_alloc ?_ _)); refine blk_far ?_ NB784_800.out _; (with_reducible repeat (first | refine blk_drewN ?_ _ | refine blk_drew ?_ | refine blk_alloc ?_ _)); exact BK784.out⟩
     have n2_ : Aside0 ((((w17.setCell ⟨gb800, 0, none⟩ (.int .i64 t794)).setCell ⟨gb800, 1, none⟩ (.int .i64 t797)).setCell ⟨gb800, 2, none⟩ (.int .i64 1)).heap[gb800]? = some (.cells #[.int .i64 t794, .int .i64 t797, .int .i64 1] 52 (0, 0))) := ⟨by (with_reducible repeat (first | refine blk_drewN ?_ _ | refine blk_drew ?_ | refine blk_alloc ?_ _)); refine blk_put (cs := #[.int .i64 t794, .int .i64 t797, .int .i64 0]) ?_ 2 _ rfl; (with_reducible repeat (first | refine blk_drewN ?_ _ | refine blk_drew ?_ | refine blk_alloc ?_ _)); refine blk_put (cs := #[.int .i64 t794, .int .i64 0, .int .i64 0]) ?_ 1 _ rfl; (with_reducible repeat (first | refine blk_drewN ?_ _ | refine blk_drew ?_ | refine blk_alloc ?_ _)); refine blk_put (cs := #[.int .i64 0, .int .i64 0, .int .i64 0]) ?_ 0 _ rfl; (with_reducible repeat (first | refine blk_drewN ?_ _ | refine blk_drew ?_ | refine blk_alloc ?_ _)); exact BK800.out⟩
     have n3_ : Aside0 (IsS87 w (((w17.setCell ⟨gb800, 0, none⟩ (.int .i64 t794)).setCell ⟨gb800, 1, none⟩ (.int .i64 t797)).setCell ⟨gb800, 2, none⟩ (.int .i64 1)) gb785 l0 t798 t799) := ⟨by repeat (first | (with_reducible first | exact HI785.out | apply IsS87.alloc | apply IsS87.drewN | apply IsS87.drew | apply IsS87.set_1 | apply IsS87.set_2 | refine IsS87.far ?_ NB785_784.out _ | refine IsS87.far ?_ NB785_800.out _) | exact HI785.out)⟩
     have n4_ : Aside0 (Below w.heap.size w (((w17.setCell ⟨gb800, 0, none⟩ (.int .i64 t794)).setCell ⟨gb800, 1, none⟩ (.int .i64 t797)).setCell ⟨gb800, 2, none⟩ (.int .i64 1))) := ⟨by repeat (first | (with_reducible first | exact HB.out | apply below_alloc | apply pw_below_drewN | apply below_drew1 | refine below_set ?_ (IsS87.ge HI785.out) | refine below_set ?_ GE784.out | refine below_set ?_ GE800.out) | exact HB.out)⟩
     (try clear HO791)
     (try clear BK784)
     (try clear BK800)
     (try clear HI785)
     (try clear HB)
     generalize (((w17.setCell ⟨gb800, 0, none⟩ (.int .i64 t794)).setCell ⟨gb800, 1, none⟩ (.int .i64 t797)).setCell ⟨gb800, 2, none⟩ (.int .i64 1)) = w21 at n0_ n1_ n2_ n3_ n4_ ⊢
     have HO791 := n0_
     have BK784 := n1_
     have BK800 := n2_
     have HI785 := n3_
     have HB := n4_
     clear n0_ n1_ n2_ n3_ n4_
     have n0_ := Aside0.mk (Kd.R_drew HO791.out)
     have n1_ := Aside0.mk (blk_drew BK784.out)
     have n2_ := Aside0.mk (blk_drew BK800.out)
     have n3_ := Aside0.mk (IsS87.drew HI785.out)
     have n4_ := Aside0.mk (below_drew1 HB.out)
     clear HO791
     clear BK784
     clear BK800
     clear HI785
     clear HB
     have HO791 := n0_
     have BK784 := n1_
     have BK800 := n2_
     have HI785 := n3_
     have HB := n4_
     clear n0_ n1_ n2_ n3_ n4_
     obtain ⟨Ao23, co23, eo23⟩ := Kd.R_slice HO791.out
     (first | subst eo23 | (injection eo23 with f1_ f2_ f3_; have f4_ := f1_.symm; have f5_ := f3_.symm; clear f1_ f2_ f3_; subst f4_; subst f5_))
     have p801 : 0 ≤ (t794 : Int) := of_decide_eq_true (by first | (with_reducible assumption) | assumption)
     have q801 : t794 < (t789.length : Int) := of_decide_eq_true (by first | (with_reducible assumption) | assumption)
     obtain ⟨ad801, e801, hx801_0⟩ := Kd.at_int (Kd.R_reads' HO791.out).2.2 t794 p801 q801
     cases e801
     replace p801 := eq_true p801
     replace q801 := eq_true q801
     have p802 : 0 ≤ (t797 : Int) := of_decide_eq_true (by first | (with_reducible assumption) | assumption)
     have q802 : t797 < (t789.length : Int) := of_decide_eq_true (by first | (with_reducible assumption) | assumption)
     obtain ⟨ad802, e802, hx802_0⟩ := Kd.at_int (Kd.R_reads' HO791.out).2.2 t797 p802 q802
     obtain rfl : ad801 = ad802 := (by injection e802)
     replace p802 := eq_true p802
     replace q802 := eq_true q802
     refine start_ (n := 11) (S := fun w' => w'.cell? ⟨gb800, 0, none⟩ = some (.int .i64 t794) ∧ w'.cell? ⟨gb800, 1, none⟩ = some (.int .i64 t797) ∧ w'.cell? ⟨gb800, 2, none⟩ = some (.int .i64 1) ∧ w'.cell? (ad801.add (t794).toNat) = some (.int .i64 (rd t789 t794)) ∧ w'.cell? (ad801.add (t797).toNat) = some (.int .i64 (rd t789 t797))) (ds := []) #[false, false, false, false, false, false, false, false, false, false, false] (by kernel_rfl) rfl rfl ⟨(blk_cell BK800.out 0).trans rfl, (blk_cell BK800.out 1).trans rfl, (blk_cell BK800.out 2).trans rfl, hx801_0, hx802_0⟩ (fun hHeld => ?_); refine with_tabW spec_DrawGiftTerms.tab5 spec_DrawGiftTerms.bits5 (fun HT_ HW_ => ?_)
     generalize w21.drew = w22 at HO791 BK784 BK800 HI785 HB hx801_0 hx802_0 hHeld ⊢
     refine pure_ (i := 0) (N := some 24) (v := ?_) (a' := ?_) #[true, false, false, false, false, false, false, false, false, false, false] rfl rfl (any_of HT_.out (by kernel_rfl)) (fun _ _ _ h => h) (Or.inl ⟨by rfl, ?_⟩) ?_ ?_
     rotate_left
     ·intro w'
      go_simp
      with_reducible rfl
     rotate_left
     ·simp only [Act.put, List.setIfInBounds_toArray, List.set_cons_zero, List.set_cons_succ, i64_w, i32_w]
      rfl
     refine pure_ (i := 1) (N := some 25) (v := ?_) (a' := ?_) #[true, true, false, false, false, false, false, false, false, false, false] rfl rfl (any_of HT_.out (by kernel_rfl)) (fun _ _ _ h => h) (Or.inl ⟨by rfl, ?_⟩) ?_ ?_
     rotate_left
     ·intro w'
      go_simp
      with_reducible rfl
     rotate_left
     ·simp only [Act.put, List.setIfInBounds_toArray, List.set_cons_zero, List.set_cons_succ, i64_w, i32_w]
      rfl
     refine pure_ (i := 5) (N := some 29) (v := ?_) (a' := ?_) #[true, true, false, false, false, true, false, false, false, false, false] rfl rfl (any_of HT_.out (by kernel_rfl)) (fun _ _ _ h => h) (Or.inl ⟨by rfl, ?_⟩) ?_ ?_
     rotate_left
     ·intro w'
      go_simp
      with_reducible rfl
     rotate_left
     ·simp only [Act.put, List.setIfInBounds_toArray, List.set_cons_zero, List.set_cons_succ, i64_w, i32_w]
      rfl
     refine pure_ (i := 6) (N := some 30) (v := ?_) (a' := ?_) #[true, true, false, false, false, true, true, false, false, false, false] rfl rfl (any_of HT_.out (by kernel_rfl)) (fun _ _ _ h => h) (Or.inl ⟨by rfl, ?_⟩) ?_ ?_
     rotate_left
     ·intro w'
      go_simp
      with_reducible rfl
     rotate_left
     ·simp only [Act.put, List.setIfInBounds_toArray, List.set_cons_zero, List.set_cons_succ, i64_w, i32_w]
      rfl
     refine take_ (i := 2) (N := some 26) (v := ?_) (a' := ?_) #[true, true, true, false, false, true, true, false, false, false, false] rfl rfl (take_ofW HT_.out HW_.out (by kernel_rfl)) (fun _ _ _ h => h) (Or.inl ⟨by rfl, ?_⟩) hHeld ?_ ?_
     rotate_left
     ·rintro w' ⟨s0, s1, s2, s3, s4⟩
      go_simp
      with_reducible rfl
     rotate_left
     ·simp only [Act.put, List.setIfInBounds_toArray, List.set_cons_zero, List.set_cons_succ, i64_w, i32_w]
      rfl
     refine pure_ (i := 3) (N := some 27) (v := ?_) (a' := ?_) #[true, true, true, true, false, true, true, false, false, false, false] rfl rfl (any_of HT_.out (by kernel_rfl)) (fun _ _ _ h => h) (Or.inl ⟨by rfl, ?_⟩) ?_ ?_
     rotate_left
     ·intro w'
      go_simp
      with_reducible rfl
     rotate_left
     ·simp only [Act.put, List.setIfInBounds_toArray, List.set_cons_zero, List.set_cons_succ, i64_w, i32_w]
      rfl
     refine take_ (i := 4) (N := some 28) (v := ?_) (a' := ?_) #[true, true, true, true, true, true, true, false, false, false, false] rfl rfl (take_ofW HT_.out HW_.out (by kernel_rfl)) (fun _ _ _ h => h) (Or.inl ⟨by rfl, ?_⟩) hHeld ?_ ?_
     rotate_left
     ·rintro w' ⟨s0, s1, s2, s3, s4⟩
      go_simp
      with_reducible rfl
     rotate_left
     ·simp only [Act.put, List.setIfInBounds_toArray, List.set_cons_zero, List.set_cons_succ, i64_w, i32_w]
      rfl
     refine take_ (i := 7) (N := some 31) (v := ?_) (a' := ?_) #[true, true, true, true, true, true, true, true, false, false, false] rfl rfl (take_ofW HT_.out HW_.out (by kernel_rfl)) (fun _ _ _ h => h) (Or.inl ⟨by rfl, ?_⟩) hHeld ?_ ?_
     rotate_left
     ·rintro w' ⟨s0, s1, s2, s3, s4⟩
      go_simp
      with_reducible rfl
     rotate_left
     ·simp only [Act.put, List.setIfInBounds_toArray, List.set_cons_zero, List.set_cons_succ, i64_w, i32_w]
      rfl
     refine pure_ (i := 8) (N := some 32) (v := ?_) (a' := ?_) #[true, true, true, true, true, true, true, true, true, false, false] rfl rfl (any_of HT_.out (by kernel_rfl)) (fun _ _ _ h => h) (Or.inl ⟨by rfl, ?_⟩) ?_ ?_
     rotate_left
     ·intro w'
      go_simp
      with_reducible rfl
     rotate_left
     ·simp only [Act.put, List.setIfInBounds_toArray, List.set_cons_zero, List.set_cons_succ, i64_w, i32_w]
      rfl
     refine take_ (i := 9) (N := some 33) (v := ?_) (a' := ?_) #[true, true, true, true, true, true, true, true, true, true, false] rfl rfl (take_ofW HT_.out HW_.out (by kernel_rfl)) (fun _ _ _ h => h) (Or.inl ⟨by rfl, ?_⟩) hHeld ?_ ?_
     rotate_left
     ·rintro w' ⟨s0, s1, s2, s3, s4⟩
      go_simp
      with_reducible rfl
     rotate_left
     ·simp only [Act.put, List.setIfInBounds_toArray, List.set_cons_zero, List.set_cons_succ, i64_w, i32_w]
      rfl
     refine pure_ (i := 10) (N := some 34) (v := ?_) (a' := ?_) #[true, true, true, true, true, true, true, true, true, true, true] rfl rfl (any_of HT_.out (by kernel_rfl)) (fun _ _ _ h => h) (Or.inl ⟨by rfl, ?_⟩) ?_ ?_
     rotate_left
     ·intro w'
      go_simp
      with_reducible rfl
     rotate_left
     ·simp only [Act.put, List.setIfInBounds_toArray, List.set_cons_zero, List.set_cons_succ, i64_w, i32_w]
      rfl
     refine done_ (done_of HT_.out (by kernel_rfl)) ?_
     go_upto_if 34 with (fail)
     go_cut [] (fun wc => ∃ (kq : Nat) (x801000_9 : Int) (x801001_9 : Int) (x801002_9 : Int), Aside0 (spec_DrawGiftTerms.j0 kq t786 t789 l0 t798 t799 x801000_9 x801001_9 x801002_9 = some (r1, r2, r3, r4, r5)) ∧ Aside0 (kq ≤ k) ∧ Aside0 (Kd.R (Kd.int .i64) 3 wc w.heap.size (fun _ => True) (.slice (some ad801) t789.length co23) t789) ∧ Aside0 (wc.heap[gb784]? = some (.cells #[.int .i64 0, .int .i64 0, .int .i64 0] 52 (0, 0))) ∧ Aside0 (wc.heap[gb800]? = some (.cells #[.int .i64 x801000_9, .int .i64 x801001_9, .int .i64 x801002_9] 52 (0, 0))) ∧ Aside0 (IsS87 w wc gb785 l0 t798 t799) ∧ Aside0 (Below w.heap.size w wc))
     case first =>
      have H := HC10.out
      clear HC10
      by_cases c24 : (rd t789 t794) < (rd t789 t797)
      ·rw [if_pos c24] at H
       have c24b0 : decide ((rd t789 t794) < (rd t789 t797)) = true := decide_eq_true c24
       clear c24
       (first | rw [c24b0] | (simp only [i64_w, i32_w]; rw [c24b0]) | skip)
       have H' := Aside0.mk H
       clear H
       have hnb25 := NB800_784.out
       have hnc25 := NB784_800.out
       have hnb26 := NB800_785.out
       have hnc26 := NB785_800.out
       have hcz27_0 : w22.cell? ⟨gb800, 0, none⟩ = some (.int .i64 t794) := (blk_cell BK800.out 0).trans rfl
       have hcz27_1 : w22.cell? ⟨gb800, 1, none⟩ = some (.int .i64 t797) := (blk_cell BK800.out 1).trans rfl
       have hcz27_2 : w22.cell? ⟨gb800, 2, none⟩ = some (.int .i64 1) := (blk_cell BK800.out 2).trans rfl
       have hfz27_0 := blk_frozen BK800.out 0
       have hfz27_1 := blk_frozen BK800.out 1
       have hfz27_2 := blk_frozen BK800.out 2
       go_wp2
       go_meet
       case rel => exact ⟨_, (t797), (t794), (1), H', ⟨by first | omega | exact Nat.le_refl _⟩, ⟨by (with_reducible repeat (first | apply Kd.R_alloc | apply Kd.R_drewN | apply Kd.R_drew)); exact Kd.R_mono (Kd.R_far (p := ⟨gb800, 2, none⟩) (Kd.R_far (p := ⟨gb800, 1, none⟩) (Kd.R_far (p := ⟨gb800, 0, none⟩) (Kd.R_types HO791.out BK800.out (by decide)) (fun _ hk => hk.2) (.int .i64 t797)) (fun _ hk => hk.2) (.int .i64 t794)) (fun _ hk => hk.2) (.int .i64 1)) (fun _ hk => trivial)⟩, ⟨by (with_reducible repeat (first | refine blk_drewN ?_ _ | refine blk_drew ?_ | refine blk_alloc ?_ _)); refine blk_far ?_ NB784_800.out _; (with_reducible repeat (first | refine blk_drewN ?_ _ | refine blk_drew ?_ | refine blk_alloc ?_ _)); refine blk_far ?_ NB784_800.out _; (with_reducible repeat (first | refine blk_drewN ?_ _ | refine blk_drew ?_ | refine blk_alloc ?_ _)); refine blk_far ?_ NB784_800.out _; (with_reducible repeat (first | refine blk_drewN ?_ _ | refine blk_drew ?_ | refine blk_alloc ?_ _)); exact BK784.out⟩, ⟨by (with_reducible repeat (first | refine blk_drewN ?_ _ | refine blk_drew ?_ | refine blk_alloc ?_ _)); refine blk_put (cs := #[.int .i64 t797, .int .i64 t794, .int .i64 1]) ?_ 2 _ rfl; (with_reducible repeat (first | refine blk_drewN ?_ _ | refine blk_drew ?_ | refine blk_alloc ?_ _)); refine blk_put (cs := #[.int .i64 t797, .int .i64 t797, .int .i64 1]) ?_ 1 _ rfl; (with_reducible repeat (first | refine blk_drewN ?_ _ | refine blk_drew ?_ | refine blk_alloc ?_ _)); refine blk_put (cs := #[.int .i64 t794, .int .i64 t797, .int .i64 1]) ?_ 0 _ rfl; (with_reducible repeat (first | refine blk_drewN ?_ _ | refine blk_drew ?_ | refine blk_alloc ?_ _)); exact BK800.out⟩, ⟨by repeat (first | (with_reducible first | exact HI785.out | apply IsS87.alloc | apply IsS87.drewN | apply IsS87.drew | apply IsS87.set_1 | apply IsS87.set_2 | refine IsS87.far ?_ NB785_784.out _ | refine IsS87.far ?_ NB785_800.out _) | exact HI785.out)⟩, ⟨by repeat (first | (with_reducible first | exact HB.out | apply below_alloc | apply pw_below_drewN | apply below_drew1 | refine below_set ?_ (IsS87.ge HI785.out) | refine below_set ?_ GE784.out | refine below_set ?_ GE800.out) | exact HB.out)⟩⟩
      ·rw [if_neg c24] at H
       have c24b0 : decide ((rd t789 t794) < (rd t789 t797)) = false := decide_eq_false c24
       clear c24
       (first | rw [c24b0] | (simp only [i64_w, i32_w]; rw [c24b0]) | skip)
       have H' := Aside0.mk H
       clear H
       go_wp2
       go_meet
       case rel => exact ⟨_, (t794), (t797), (1), H', ⟨by first | omega | exact Nat.le_refl _⟩, ⟨by (with_reducible repeat (first | apply Kd.R_alloc | apply Kd.R_drewN | apply Kd.R_drew)); exact HO791.out⟩, ⟨by (with_reducible repeat (first | refine blk_drewN ?_ _ | refine blk_drew ?_ | refine blk_alloc ?_ _)); exact BK784.out⟩, ⟨by (with_reducible repeat (first | refine blk_drewN ?_ _ | refine blk_drew ?_ | refine blk_alloc ?_ _)); exact BK800.out⟩, ⟨by repeat (first | (with_reducible first | exact HI785.out | apply IsS87.alloc | apply IsS87.drewN | apply IsS87.drew | apply IsS87.set_1 | apply IsS87.set_2 | refine IsS87.far ?_ NB785_784.out _ | refine IsS87.far ?_ NB785_800.out _) | exact HI785.out)⟩, ⟨by repeat (first | (with_reducible first | exact HB.out | apply below_alloc | apply pw_below_drewN | apply below_drew1 | refine below_set ?_ (IsS87.ge HI785.out) | refine below_set ?_ GE784.out | refine below_set ?_ GE800.out) | exact HB.out)⟩⟩
     case rest =>
      clear HC10
      try clear c1
      try clear c2
      try clear p2
      try clear c5
      try clear c6
      try clear c6b0
      try clear c7
      try clear c7b0
      try clear c8
      try clear c8b0
      try clear p8
      try clear q8
      try clear hx8
      try clear c9
      try clear c9b0
      try clear c14
      try clear c18
      try clear c19
      try clear c24
      try clear c24b0
      try clear c25
      try clear c26
      try clear hcz20_0
      try clear hcz20_1
      try clear hcz20_2
      try clear hcz27_0
      try clear hcz27_1
      try clear hcz27_2
      try clear hfz20_0
      try clear hfz20_1
      try clear hfz20_2
      try clear hfz27_0
      try clear hfz27_1
      try clear hfz27_2
      try clear hx801_0
      try clear hx802_0
      try clear p801
      try clear p802
      try clear q801
      try clear q802
      obtain ⟨kq, x801000_9, x801001_9, x801002_9, HA, HJ9, HO_7, BK784, BK800, HI785, HB⟩ := hcut
      cases kq with
      | zero => exact absurd HA.out (by simp [spec_DrawGiftTerms.j0])
      | succ kj9 =>
       have H := HA.out
       clear HA
       simp only [spec_DrawGiftTerms.j0] at H
       replace H := Option.bind_eq_some_iff.mp H
       obtain ⟨⟨t803, t804, t805⟩, A280, H⟩ := H
       replace H : (if t803 = true then ((spec_l1Cur_arguments.f kj9 l0 t804 t805 t786).bind fun bt806 => (some (t789, x801000_9, x801001_9, 2, bt806.1))) else ((spec_l1Cur_arguments.f kj9 l0 t804 t805 t786).bind fun bt811 => (some (t789, x801000_9, x801001_9, x801002_9, bt811.1)))) = some (r1, r2, r3, r4, r5) := H
       have A28 := Aside0.mk A280
       clear A280
       by_cases c29 : t803 = true
       ·subst c29
        have H1 : ((spec_l1Cur_arguments.f kj9 l0 t804 t805 t786).bind fun bt806 => (some (t789, x801000_9, x801001_9, 2, bt806.1))) = some (r1, r2, r3, r4, r5) := by rw [if_pos rfl] at H; exact H
        clear H
        have H := H1
        clear H1
        replace H := Option.bind_eq_some_iff.mp H
        obtain ⟨⟨t806, t809, t810⟩, A300, H⟩ := H
        replace H : (some (t789, x801000_9, x801001_9, 2, t806)) = some (r1, r2, r3, r4, r5) := H
        have A30 := Aside0.mk A300
        clear A300
        simp only [Option.some.injEq, Prod.mk.injEq] at H
        obtain ⟨rfl, rfl, rfl, rfl, rfl⟩ := H
        try go_wp2_with (first | ((with_reducible refine gate_callee (f := 147) rfl ?_); refine goesL_ (some 41) rfl rfl Try.func147 (by kernel_rfl) rfl #[.pointer (some ⟨gb785, 0, none⟩), .int .i64 10] rfl (by (try simp only [List.map_toArray, List.map_cons, List.map_nil]); first | done | rfl | (simp only [List.length_drop, List.length_take]; rfl)) ?_; (with_reducible refine (spec_l1Cur_one.calls gb785 l0 t798 t799 10 true t804 t805 w _ ?side1 ?side2 A28.out).mono ?_); (case side1 => repeat (first | (with_reducible first | exact HI785.out | apply IsS87.alloc | apply IsS87.drewN | apply IsS87.drew | apply IsS87.set_1 | apply IsS87.set_2 | refine IsS87.far ?_ NB785_784.out _ | refine IsS87.far ?_ NB785_800.out _) | exact HI785.out)); (case side2 => repeat (first | (with_reducible first | exact HB.out | apply below_alloc | apply pw_below_drewN | apply below_drew1 | refine below_set ?_ (IsS87.ge HI785.out) | refine below_set ?_ GE784.out | refine below_set ?_ GE800.out) | exact HB.out)); rintro e w31 ⟨rfl, hi, hb, hk⟩; refine ⟨_, rfl, ?_⟩; have n0_ := Aside0.mk (Kd.R_mono (Kd.R_keep (IsS87.apart (show IsS87 w _ gb785 l0 t798 t799 from by repeat (first | (with_reducible first | exact HI785.out | apply IsS87.alloc | apply IsS87.drewN | apply IsS87.drew | apply IsS87.set_1 | apply IsS87.set_2 | refine IsS87.far ?_ NB785_784.out _ | refine IsS87.far ?_ NB785_800.out _) | exact HI785.out)) (by (with_reducible repeat (first | apply Kd.R_alloc | apply Kd.R_drewN | apply Kd.R_drew)); exact HO_7.out) (by decide)) hk (fun _ h => h.2)) (fun _ h => h.1)); have n1_ := Aside0.mk (KeepBut.blk hk (g' := gb784) (o := .cells #[.int .i64 0, .int .i64 0, .int .i64 0] 52 (0, 0)) (by (with_reducible repeat (first | refine blk_drewN ?_ _ | refine blk_drew ?_ | refine blk_alloc ?_ _)); exact BK784.out) NB784_785.out (by simp)); have n2_ := Aside0.mk (KeepBut.blk hk (g' := gb800) (o := .cells #[.int .i64 x801000_9, .int .i64 x801001_9, .int .i64 x801002_9] 52 (0, 0)) (by (with_reducible repeat (first | refine blk_drewN ?_ _ | refine blk_drew ?_ | refine blk_alloc ?_ _)); exact BK800.out) NB800_785.out (by simp)); have n3_ := Aside0.mk (hb); have n4_ := Aside0.mk (hi); clear HO_7; clear BK784; clear BK800; clear HB; clear HI785; have HO_7 := n0_; have BK784 := n1_; have BK800 := n2_; have HB := n3_; have HI785 := n4_; clear n0_ n1_ n2_ n3_ n4_; (try clear hb); (try clear hb2); (try clear hk); (try clear hi); have hnb32 := NB800_784.out; have hnc32 := NB784_800.out; have hnb33 := NB800_785.out; have hnc33 := NB785_800.out; have hcz34_0 : w31.cell? ⟨gb800, 0, none⟩ = some (.int .i64 x801000_9) := (blk_cell BK800.out 0).trans rfl; have hcz34_1 : w31.cell? ⟨gb800, 1, none⟩ = some (.int .i64 x801001_9) := (blk_cell BK800.out 1).trans rfl; have hcz34_2 : w31.cell? ⟨gb800, 2, none⟩ = some (.int .i64 x801002_9) := (blk_cell BK800.out 2).trans rfl; have hfz34_0 := blk_frozen BK800.out 0; have hfz34_1 := blk_frozen BK800.out 1; have hfz34_2 := blk_frozen BK800.out 2))
        have n0_ : Aside0 (Kd.R (Kd.int .i64) 3 (w31.setCell ⟨gb800, 2, none⟩ (.int .i64 2)) w.heap.size (fun _ => True) (.slice (some ad801) t789.length co23) t789) := ⟨by (with_reducible repeat (first | apply Kd.R_alloc | apply Kd.R_drewN | apply Kd.R_drew)); exact Kd.R_mono (Kd.R_far (p := ⟨gb800, 2, none⟩) (Kd.R_types HO_7.out BK800.out (by decide)) (fun _ hk => hk.2) (.int .i64 2)) (fun _ hk => trivial)⟩
        have n1_ : Aside0 ((w31.setCell ⟨gb800, 2, none⟩ (.int .i64 2)).heap[gb784]? = some (.cells #[.int .i64 0, .int .i64 0, .int .i64 0] 52 (0, 0))) := ⟨by (with_reducible repeat (first | refine blk_drewN ?_ _ | refine blk_drew ?_ | refine blk_alloc ?_ _)); refine blk_far ?_ NB784_800.out _; (with_reducible repeat (first | refine blk_drewN ?_ _ | refine blk_drew ?_ | refine blk_alloc ?_ _)); exact BK784.out⟩
        have n2_ : Aside0 ((w31.setCell ⟨gb800, 2, none⟩ (.int .i64 2)).heap[gb800]? = some (.cells #[.int .i64 x801000_9, .int .i64 x801001_9, .int .i64 2] 52 (0, 0))) := ⟨by (with_reducible repeat (first | refine blk_drewN ?_ _ | refine blk_drew ?_ | refine blk_alloc ?_ _)); refine blk_put (cs := #[.int .i64 x801000_9, .int .i64 x801001_9, .int .i64 x801002_9]) ?_ 2 _ rfl; (with_reducible repeat (first | refine blk_drewN ?_ _ | refine blk_drew ?_ | refine blk_alloc ?_ _)); exact BK800.out⟩
        have n3_ : Aside0 (IsS87 w (w31.setCell ⟨gb800, 2, none⟩ (.int .i64 2)) gb785 l0 t804 t805) := ⟨by repeat (first | (with_reducible first | exact HI785.out | apply IsS87.alloc | apply IsS87.drewN | apply IsS87.drew | apply IsS87.set_1 | apply IsS87.set_2 | refine IsS87.far ?_ NB785_784.out _ | refine IsS87.far ?_ NB785_800.out _) | exact HI785.out)⟩
        have n4_ : Aside0 (Below w.heap.size w (w31.setCell ⟨gb800, 2, none⟩ (.int .i64 2))) := ⟨by repeat (first | (with_reducible first | exact HB.out | apply below_alloc | apply pw_below_drewN | apply below_drew1 | refine below_set ?_ (IsS87.ge HI785.out) | refine below_set ?_ GE784.out | refine below_set ?_ GE800.out) | exact HB.out)⟩
        (try clear HO_7)
        (try clear BK784)
        (try clear BK800)
        (try clear HI785)
        (try clear HB)
        generalize (w31.setCell ⟨gb800, 2, none⟩ (.int .i64 2)) = w35 at n0_ n1_ n2_ n3_ n4_ ⊢
        have HO_7 := n0_
        have BK784 := n1_
        have BK800 := n2_
        have HI785 := n3_
        have HB := n4_
        clear n0_ n1_ n2_ n3_ n4_
        have n0_ := Aside0.mk (Kd.R_drew HO_7.out)
        have n1_ := Aside0.mk (blk_drew BK784.out)
        have n2_ := Aside0.mk (blk_drew BK800.out)
        have n3_ := Aside0.mk (IsS87.drew HI785.out)
        have n4_ := Aside0.mk (below_drew1 HB.out)
        clear HO_7
        clear BK784
        clear BK800
        clear HI785
        clear HB
        have HO_7 := n0_
        have BK784 := n1_
        have BK800 := n2_
        have HI785 := n3_
        have HB := n4_
        clear n0_ n1_ n2_ n3_ n4_
        refine start_ (n := 8) (S := fun w' => w'.cell? ⟨gb800, 0, none⟩ = some (.int .i64 x801000_9) ∧ w'.cell? ⟨gb800, 1, none⟩ = some (.int .i64 x801001_9) ∧ w'.cell? ⟨gb800, 2, none⟩ = some (.int .i64 2)) (ds := []) #[false, false, false, false, false, false, false, false] (by kernel_rfl) rfl rfl ⟨(blk_cell BK800.out 0).trans rfl, (blk_cell BK800.out 1).trans rfl, (blk_cell BK800.out 2).trans rfl⟩ (fun hHeld => ?_); refine with_tabW spec_DrawGiftTerms.tab9 spec_DrawGiftTerms.bits9 (fun HT_ HW_ => ?_)
        generalize w35.drew = w36 at HO_7 BK784 BK800 HI785 HB hHeld ⊢
        refine pure_ (i := 0) (N := some 43) (v := ?_) (a' := ?_) #[true, false, false, false, false, false, false, false] rfl rfl (any_of HT_.out (by kernel_rfl)) (fun _ _ _ h => h) (Or.inl ⟨by rfl, ?_⟩) ?_ ?_
        rotate_left
        ·intro w'
         go_simp
         with_reducible rfl
        rotate_left
        ·simp only [Act.put, List.setIfInBounds_toArray, List.set_cons_zero, List.set_cons_succ, i64_w, i32_w]
         rfl
        refine pure_ (i := 2) (N := some 45) (v := ?_) (a' := ?_) #[true, false, true, false, false, false, false, false] rfl rfl (any_of HT_.out (by kernel_rfl)) (fun _ _ _ h => h) (Or.inl ⟨by rfl, ?_⟩) ?_ ?_
        rotate_left
        ·intro w'
         go_simp
         with_reducible rfl
        rotate_left
        ·simp only [Act.put, List.setIfInBounds_toArray, List.set_cons_zero, List.set_cons_succ, i64_w, i32_w]
         rfl
        refine pure_ (i := 3) (N := some 46) (v := ?_) (a' := ?_) #[true, false, true, true, false, false, false, false] rfl rfl (any_of HT_.out (by kernel_rfl)) (fun _ _ _ h => h) (Or.inl ⟨by rfl, ?_⟩) ?_ ?_
        rotate_left
        ·intro w'
         go_simp
         with_reducible rfl
        rotate_left
        ·simp only [Act.put, List.setIfInBounds_toArray, List.set_cons_zero, List.set_cons_succ, i64_w, i32_w]
         rfl
        refine take_ (i := 1) (N := some 44) (v := ?_) (a' := ?_) #[true, true, true, true, false, false, false, false] rfl rfl (take_ofW HT_.out HW_.out (by kernel_rfl)) (fun _ _ _ h => h) (Or.inl ⟨by rfl, ?_⟩) hHeld ?_ ?_
        rotate_left
        ·rintro w' ⟨s0, s1, s2⟩
         go_simp
         with_reducible rfl
        rotate_left
        ·simp only [Act.put, List.setIfInBounds_toArray, List.set_cons_zero, List.set_cons_succ, i64_w, i32_w]
         rfl
        refine one_ (i := 4) (N := some 47) #[true, true, true, true, true, false, false, false] rfl rfl (one_of HT_.out (by kernel_rfl)) (by decide) (fun K hK => ?_)
        refine goes_ Try.func148 (by kernel_rfl) rfl #[.pointer (some ⟨gb785, 0, none⟩), .int .i64 t786] (by rfl) rfl rfl (by (try simp only [List.map_toArray, List.map_cons, List.map_nil]); first | done | rfl | (simp only [List.length_drop, List.length_take]; rfl)) ?_
        with_reducible refine (spec_l1Cur_arguments.calls kj9 gb785 l0 t804 t805 t786 t806 t809 t810 w _ ?side1 ?side2 A30.out).mono ?_
        (case side1 => repeat (first | (with_reducible first | exact HI785.out | apply IsS87.alloc | apply IsS87.drewN | apply IsS87.drew | apply IsS87.set_1 | apply IsS87.set_2 | refine IsS87.far ?_ NB785_784.out _ | refine IsS87.far ?_ NB785_800.out _) | exact HI785.out))
        (case side2 => repeat (first | (with_reducible first | exact HB.out | apply below_alloc | apply pw_below_drewN | apply below_drew1 | refine below_set ?_ (IsS87.ge HI785.out) | refine below_set ?_ GE784.out | refine below_set ?_ GE800.out) | exact HB.out))
        rintro e w37 ⟨v807, rfl, ho0, hi, hb, hk⟩
        refine ⟨_, rfl, ?_⟩
        have n0_ := Aside0.mk (Kd.R_mono (Kd.R_told (Kd.R_oldK (IsS87.apart (show IsS87 w _ gb785 l0 t804 t805 from by repeat (first | (with_reducible first | exact HI785.out | apply IsS87.alloc | apply IsS87.drewN | apply IsS87.drew | apply IsS87.set_1 | apply IsS87.set_2 | refine IsS87.far ?_ NB785_784.out _ | refine IsS87.far ?_ NB785_800.out _) | exact HI785.out)) (by (with_reducible repeat (first | apply Kd.R_alloc | apply Kd.R_drewN | apply Kd.R_drew)); exact HO_7.out) (by decide)) hk) (Kd.R_base ho0)) (fun _ h_ => h_.1))
        have n1_ := Aside0.mk (KeepBut.blk hk (g' := gb784) (o := .cells #[.int .i64 0, .int .i64 0, .int .i64 0] 52 (0, 0)) (by (with_reducible repeat (first | refine blk_drewN ?_ _ | refine blk_drew ?_ | refine blk_alloc ?_ _)); exact BK784.out) NB784_785.out (by simp))
        have n2_ := Aside0.mk (KeepBut.blk hk (g' := gb800) (o := .cells #[.int .i64 x801000_9, .int .i64 x801001_9, .int .i64 2] 52 (0, 0)) (by (with_reducible repeat (first | refine blk_drewN ?_ _ | refine blk_drew ?_ | refine blk_alloc ?_ _)); exact BK800.out) NB800_785.out (by simp))
        have n3_ := Aside0.mk (Kd.R_lower (Kd.R_new' ho0 (Kd.R_lt (by (with_reducible repeat (first | apply Kd.R_alloc | apply Kd.R_drewN | apply Kd.R_drew)); exact HO_7.out))) (below_size (by repeat (first | (with_reducible first | exact HB.out | apply below_alloc | apply pw_below_drewN | apply below_drew1 | refine below_set ?_ (IsS87.ge HI785.out) | refine below_set ?_ GE784.out | refine below_set ?_ GE800.out) | exact HB.out))))
        have n4_ := Aside0.mk (hb)
        have n5_ := Aside0.mk (hi)
        clear HO_7
        clear BK784
        clear BK800
        clear HB
        clear HI785
        have HO_7 := n0_
        have BK784 := n1_
        have BK800 := n2_
        have HO808 := n3_
        have HB := n4_
        have HI785 := n5_
        clear n0_ n1_ n2_ n3_ n4_ n5_
        (try clear hb)
        (try clear hb2)
        (try clear hk)
        (try clear hi)
        (try clear ho0)
        refine hK.out _ _ ⟨(blk_cell BK800.out 0).trans rfl, (blk_cell BK800.out 1).trans rfl, (blk_cell BK800.out 2).trans rfl⟩ (fun hHeld => ?_)
        clear hK K
        refine norm_ (a' := ?_) ?_ ?_
        rotate_left
        ·show Act.put _ (some 47) _ = _
         simp only [Act.put, List.setIfInBounds_toArray, List.set_cons_zero, List.set_cons_succ, i64_w, i32_w]
         rfl
        refine pure_ (i := 5) (N := some 2) (v := ?_) (a' := ?_) #[true, true, true, true, true, true, false, false] rfl rfl (any_of HT_.out (by kernel_rfl)) (fun _ _ _ h => h) (Or.inl ⟨by rfl, ?_⟩) ?_ ?_
        rotate_left
        ·intro w'
         go_simp
         with_reducible rfl
        rotate_left
        ·simp only [Act.put, List.setIfInBounds_toArray, List.set_cons_zero, List.set_cons_succ, i64_w, i32_w]
         rfl
        refine one_ (i := 6) (N := none) #[true, true, true, true, true, true, true, false] rfl rfl (one_of HT_.out (by kernel_rfl)) (by decide) (fun K hK => ?_)
        have hs38 : w37.cell? ⟨gb784, 0, none⟩ = some (.int .i64 0) := (blk_cell BK784.out 0).trans rfl
        have hfs38 := blk_frozen BK784.out 0
        have hns38_1 := NB800_784.out
        have hms38_1 := NB784_800.out
        have hs39 : w37.cell? ⟨gb784, 1, none⟩ = some (.int .i64 0) := (blk_cell BK784.out 1).trans rfl
        have hfs39 := blk_frozen BK784.out 1
        have hns39_1 := NB800_784.out
        have hms39_1 := NB784_800.out
        have hs40 : w37.cell? ⟨gb784, 2, none⟩ = some (.int .i64 0) := (blk_cell BK784.out 2).trans rfl
        have hfs40 := blk_frozen BK784.out 2
        have hns40_1 := NB800_784.out
        have hms40_1 := NB784_800.out
        refine skip_ (w1 := ?_) (by rfl) rfl ?_ ?_
        rotate_left
        ·go_simp
         rfl
        refine hK.out _ _ ⟨((cell_far (p := ⟨gb784, _, none⟩) NB800_784.out _).trans (((cell_far (p := ⟨gb784, _, none⟩) NB800_784.out _).trans (((cell_far (p := ⟨gb784, _, none⟩) NB800_784.out _).trans (hHeld.1)))))), ((cell_far (p := ⟨gb784, _, none⟩) NB800_784.out _).trans (((cell_far (p := ⟨gb784, _, none⟩) NB800_784.out _).trans (((cell_far (p := ⟨gb784, _, none⟩) NB800_784.out _).trans (hHeld.2.1)))))), ((cell_far (p := ⟨gb784, _, none⟩) NB800_784.out _).trans (((cell_far (p := ⟨gb784, _, none⟩) NB800_784.out _).trans (((cell_far (p := ⟨gb784, _, none⟩) NB800_784.out _).trans (hHeld.2.2))))))⟩ (fun hHeld => ?_)
        clear hK K
        refine pure_ (i := 7) (N := some 4) (v := ?_) (a' := ?_) #[true, true, true, true, true, true, true, true] rfl rfl (any_of HT_.out (by kernel_rfl)) (fun _ _ _ h => h) (Or.inl ⟨by rfl, ?_⟩) ?_ ?_
        rotate_left
        ·intro w'
         go_simp
         with_reducible rfl
        rotate_left
        ·simp only [Act.put, List.setIfInBounds_toArray, List.set_cons_zero, List.set_cons_succ, i64_w, i32_w]
         rfl
        refine done_ (done_of HT_.out (by kernel_rfl)) ?_
        try go_wp2
        refine bodyPost_ret (results_list (rs := [.tmp 2, .cell 3 52, .tmp 4]) rfl (by simp) (.tmp (.cell gb784 52 #[.int .i64 x801000_9, .int .i64 x801001_9, .int .i64 2] (0, 0) _ rfl (by (with_reducible repeat (first | refine blk_drewN ?_ _ | refine blk_drew ?_ | refine blk_alloc ?_ _)); refine blk_put (cs := #[.int .i64 x801000_9, .int .i64 x801001_9, .int .i64 0]) ?_ 2 _ rfl; (with_reducible repeat (first | refine blk_drewN ?_ _ | refine blk_drew ?_ | refine blk_alloc ?_ _)); refine blk_put (cs := #[.int .i64 x801000_9, .int .i64 0, .int .i64 0]) ?_ 1 _ rfl; (with_reducible repeat (first | refine blk_drewN ?_ _ | refine blk_drew ?_ | refine blk_alloc ?_ _)); refine blk_put (cs := #[.int .i64 0, .int .i64 0, .int .i64 0]) ?_ 0 _ rfl; (with_reducible repeat (first | refine blk_drewN ?_ _ | refine blk_drew ?_ | refine blk_alloc ?_ _)); exact BK784.out) Try.underlying52 rfl (by kernel_rfl) (.tmp .nil)))) rfl ?_
        exact ⟨_, _, by first | rfl | (simp [errW_none, errW_some] <;> rfl) | (simp [*, errW_none, errW_some] <;> rfl), by (with_reducible repeat (first | apply Kd.R_alloc | apply Kd.R_drewN | apply Kd.R_drew)); exact Kd.R_mono (Kd.R_far (p := ⟨gb784, 2, none⟩) (Kd.R_far (p := ⟨gb784, 1, none⟩) (Kd.R_far (p := ⟨gb784, 0, none⟩) (Kd.R_types HO_7.out BK784.out (by decide)) (fun _ hk => hk.2) (.int .i64 x801000_9)) (fun _ hk => hk.2) (.int .i64 x801001_9)) (fun _ hk => hk.2) (.int .i64 2)) (fun _ hk => hk.1.2), by (with_reducible repeat (first | apply Kd.R_alloc | apply Kd.R_drewN | apply Kd.R_drew)); exact Kd.R_mono (Kd.R_far (p := ⟨gb784, 2, none⟩) (Kd.R_far (p := ⟨gb784, 1, none⟩) (Kd.R_far (p := ⟨gb784, 0, none⟩) (Kd.R_types HO808.out BK784.out (by decide)) (fun _ hk => hk.2) (.int .i64 x801000_9)) (fun _ hk => hk.2) (.int .i64 x801001_9)) (fun _ hk => hk.2) (.int .i64 2)) (fun _ hk => hk.1.2), by repeat (first | (with_reducible first | exact HB.out | apply below_alloc | apply pw_below_drewN | apply below_drew1 | refine below_set ?_ (IsS87.ge HI785.out) | refine below_set ?_ GE784.out | refine below_set ?_ GE800.out) | exact HB.out)⟩
       ·replace c29 := Bool.eq_false_iff.mpr c29
        subst c29
        have H1 : ((spec_l1Cur_arguments.f kj9 l0 t804 t805 t786).bind fun bt811 => (some (t789, x801000_9, x801001_9, x801002_9, bt811.1))) = some (r1, r2, r3, r4, r5) := by rw [if_neg (show ¬ (false = true) by decide)] at H; exact H
        clear H
        have H := H1
        clear H1
        replace H := Option.bind_eq_some_iff.mp H
        obtain ⟨⟨t811, t814, t815⟩, A410, H⟩ := H
        replace H : (some (t789, x801000_9, x801001_9, x801002_9, t811)) = some (r1, r2, r3, r4, r5) := H
        have A41 := Aside0.mk A410
        clear A410
        simp only [Option.some.injEq, Prod.mk.injEq] at H
        obtain ⟨rfl, rfl, rfl, rfl, rfl⟩ := H
        try go_wp2_with (first | ((with_reducible refine gate_callee (f := 147) rfl ?_); refine goesL_ (some 41) rfl rfl Try.func147 (by kernel_rfl) rfl #[.pointer (some ⟨gb785, 0, none⟩), .int .i64 10] rfl (by (try simp only [List.map_toArray, List.map_cons, List.map_nil]); first | done | rfl | (simp only [List.length_drop, List.length_take]; rfl)) ?_; (with_reducible refine (spec_l1Cur_one.calls gb785 l0 t798 t799 10 false t804 t805 w _ ?side1 ?side2 A28.out).mono ?_); (case side1 => repeat (first | (with_reducible first | exact HI785.out | apply IsS87.alloc | apply IsS87.drewN | apply IsS87.drew | apply IsS87.set_1 | apply IsS87.set_2 | refine IsS87.far ?_ NB785_784.out _ | refine IsS87.far ?_ NB785_800.out _) | exact HI785.out)); (case side2 => repeat (first | (with_reducible first | exact HB.out | apply below_alloc | apply pw_below_drewN | apply below_drew1 | refine below_set ?_ (IsS87.ge HI785.out) | refine below_set ?_ GE784.out | refine below_set ?_ GE800.out) | exact HB.out)); rintro e w42 ⟨rfl, hi, hb, hk⟩; refine ⟨_, rfl, ?_⟩; have n0_ := Aside0.mk (Kd.R_mono (Kd.R_keep (IsS87.apart (show IsS87 w _ gb785 l0 t798 t799 from by repeat (first | (with_reducible first | exact HI785.out | apply IsS87.alloc | apply IsS87.drewN | apply IsS87.drew | apply IsS87.set_1 | apply IsS87.set_2 | refine IsS87.far ?_ NB785_784.out _ | refine IsS87.far ?_ NB785_800.out _) | exact HI785.out)) (by (with_reducible repeat (first | apply Kd.R_alloc | apply Kd.R_drewN | apply Kd.R_drew)); exact HO_7.out) (by decide)) hk (fun _ h => h.2)) (fun _ h => h.1)); have n1_ := Aside0.mk (KeepBut.blk hk (g' := gb784) (o := .cells #[.int .i64 0, .int .i64 0, .int .i64 0] 52 (0, 0)) (by (with_reducible repeat (first | refine blk_drewN ?_ _ | refine blk_drew ?_ | refine blk_alloc ?_ _)); exact BK784.out) NB784_785.out (by simp)); have n2_ := Aside0.mk (KeepBut.blk hk (g' := gb800) (o := .cells #[.int .i64 x801000_9, .int .i64 x801001_9, .int .i64 x801002_9] 52 (0, 0)) (by (with_reducible repeat (first | refine blk_drewN ?_ _ | refine blk_drew ?_ | refine blk_alloc ?_ _)); exact BK800.out) NB800_785.out (by simp)); have n3_ := Aside0.mk (hb); have n4_ := Aside0.mk (hi); clear HO_7; clear BK784; clear BK800; clear HB; clear HI785; have HO_7 := n0_; have BK784 := n1_; have BK800 := n2_; have HB := n3_; have HI785 := n4_; clear n0_ n1_ n2_ n3_ n4_; (try clear hb); (try clear hb2); (try clear hk); (try clear hi)))
        have n0_ := Aside0.mk (Kd.R_drew HO_7.out)
        have n1_ := Aside0.mk (blk_drew BK784.out)
        have n2_ := Aside0.mk (blk_drew BK800.out)
        have n3_ := Aside0.mk (IsS87.drew HI785.out)
        have n4_ := Aside0.mk (below_drew1 HB.out)
        clear HO_7
        clear BK784
        clear BK800
        clear HI785
        clear HB
        have HO_7 := n0_
        have BK784 := n1_
        have BK800 := n2_
        have HI785 := n3_
        have HB := n4_
        clear n0_ n1_ n2_ n3_ n4_
        refine start_ (n := 8) (S := fun w' => w'.cell? ⟨gb800, 0, none⟩ = some (.int .i64 x801000_9) ∧ w'.cell? ⟨gb800, 1, none⟩ = some (.int .i64 x801001_9) ∧ w'.cell? ⟨gb800, 2, none⟩ = some (.int .i64 x801002_9)) (ds := []) #[false, false, false, false, false, false, false, false] (by kernel_rfl) rfl rfl ⟨(blk_cell BK800.out 0).trans rfl, (blk_cell BK800.out 1).trans rfl, (blk_cell BK800.out 2).trans rfl⟩ (fun hHeld => ?_); refine with_tabW spec_DrawGiftTerms.tab9 spec_DrawGiftTerms.bits9 (fun HT_ HW_ => ?_)
        generalize w42.drew = w43 at HO_7 BK784 BK800 HI785 HB hHeld ⊢
        refine pure_ (i := 0) (N := some 43) (v := ?_) (a' := ?_) #[true, false, false, false, false, false, false, false] rfl rfl (any_of HT_.out (by kernel_rfl)) (fun _ _ _ h => h) (Or.inl ⟨by rfl, ?_⟩) ?_ ?_
        rotate_left
        ·intro w'
         go_simp
         with_reducible rfl
        rotate_left
        ·simp only [Act.put, List.setIfInBounds_toArray, List.set_cons_zero, List.set_cons_succ, i64_w, i32_w]
         rfl
        refine pure_ (i := 2) (N := some 45) (v := ?_) (a' := ?_) #[true, false, true, false, false, false, false, false] rfl rfl (any_of HT_.out (by kernel_rfl)) (fun _ _ _ h => h) (Or.inl ⟨by rfl, ?_⟩) ?_ ?_
        rotate_left
        ·intro w'
         go_simp
         with_reducible rfl
        rotate_left
        ·simp only [Act.put, List.setIfInBounds_toArray, List.set_cons_zero, List.set_cons_succ, i64_w, i32_w]
         rfl
        refine pure_ (i := 3) (N := some 46) (v := ?_) (a' := ?_) #[true, false, true, true, false, false, false, false] rfl rfl (any_of HT_.out (by kernel_rfl)) (fun _ _ _ h => h) (Or.inl ⟨by rfl, ?_⟩) ?_ ?_
        rotate_left
        ·intro w'
         go_simp
         with_reducible rfl
        rotate_left
        ·simp only [Act.put, List.setIfInBounds_toArray, List.set_cons_zero, List.set_cons_succ, i64_w, i32_w]
         rfl
        refine take_ (i := 1) (N := some 44) (v := ?_) (a' := ?_) #[true, true, true, true, false, false, false, false] rfl rfl (take_ofW HT_.out HW_.out (by kernel_rfl)) (fun _ _ _ h => h) (Or.inl ⟨by rfl, ?_⟩) hHeld ?_ ?_
        rotate_left
        ·rintro w' ⟨s0, s1, s2⟩
         go_simp
         with_reducible rfl
        rotate_left
        ·simp only [Act.put, List.setIfInBounds_toArray, List.set_cons_zero, List.set_cons_succ, i64_w, i32_w]
         rfl
        refine one_ (i := 4) (N := some 47) #[true, true, true, true, true, false, false, false] rfl rfl (one_of HT_.out (by kernel_rfl)) (by decide) (fun K hK => ?_)
        refine goes_ Try.func148 (by kernel_rfl) rfl #[.pointer (some ⟨gb785, 0, none⟩), .int .i64 t786] (by rfl) rfl rfl (by (try simp only [List.map_toArray, List.map_cons, List.map_nil]); first | done | rfl | (simp only [List.length_drop, List.length_take]; rfl)) ?_
        with_reducible refine (spec_l1Cur_arguments.calls kj9 gb785 l0 t804 t805 t786 t811 t814 t815 w _ ?side1 ?side2 A41.out).mono ?_
        (case side1 => repeat (first | (with_reducible first | exact HI785.out | apply IsS87.alloc | apply IsS87.drewN | apply IsS87.drew | apply IsS87.set_1 | apply IsS87.set_2 | refine IsS87.far ?_ NB785_784.out _ | refine IsS87.far ?_ NB785_800.out _) | exact HI785.out))
        (case side2 => repeat (first | (with_reducible first | exact HB.out | apply below_alloc | apply pw_below_drewN | apply below_drew1 | refine below_set ?_ (IsS87.ge HI785.out) | refine below_set ?_ GE784.out | refine below_set ?_ GE800.out) | exact HB.out))
        rintro e w44 ⟨v812, rfl, ho0, hi, hb, hk⟩
        refine ⟨_, rfl, ?_⟩
        have n0_ := Aside0.mk (Kd.R_mono (Kd.R_told (Kd.R_oldK (IsS87.apart (show IsS87 w _ gb785 l0 t804 t805 from by repeat (first | (with_reducible first | exact HI785.out | apply IsS87.alloc | apply IsS87.drewN | apply IsS87.drew | apply IsS87.set_1 | apply IsS87.set_2 | refine IsS87.far ?_ NB785_784.out _ | refine IsS87.far ?_ NB785_800.out _) | exact HI785.out)) (by (with_reducible repeat (first | apply Kd.R_alloc | apply Kd.R_drewN | apply Kd.R_drew)); exact HO_7.out) (by decide)) hk) (Kd.R_base ho0)) (fun _ h_ => h_.1))
        have n1_ := Aside0.mk (KeepBut.blk hk (g' := gb784) (o := .cells #[.int .i64 0, .int .i64 0, .int .i64 0] 52 (0, 0)) (by (with_reducible repeat (first | refine blk_drewN ?_ _ | refine blk_drew ?_ | refine blk_alloc ?_ _)); exact BK784.out) NB784_785.out (by simp))
        have n2_ := Aside0.mk (KeepBut.blk hk (g' := gb800) (o := .cells #[.int .i64 x801000_9, .int .i64 x801001_9, .int .i64 x801002_9] 52 (0, 0)) (by (with_reducible repeat (first | refine blk_drewN ?_ _ | refine blk_drew ?_ | refine blk_alloc ?_ _)); exact BK800.out) NB800_785.out (by simp))
        have n3_ := Aside0.mk (Kd.R_lower (Kd.R_new' ho0 (Kd.R_lt (by (with_reducible repeat (first | apply Kd.R_alloc | apply Kd.R_drewN | apply Kd.R_drew)); exact HO_7.out))) (below_size (by repeat (first | (with_reducible first | exact HB.out | apply below_alloc | apply pw_below_drewN | apply below_drew1 | refine below_set ?_ (IsS87.ge HI785.out) | refine below_set ?_ GE784.out | refine below_set ?_ GE800.out) | exact HB.out))))
        have n4_ := Aside0.mk (hb)
        have n5_ := Aside0.mk (hi)
        clear HO_7
        clear BK784
        clear BK800
        clear HB
        clear HI785
        have HO_7 := n0_
        have BK784 := n1_
        have BK800 := n2_
        have HO813 := n3_
        have HB := n4_
        have HI785 := n5_
        clear n0_ n1_ n2_ n3_ n4_ n5_
        (try clear hb)
        (try clear hb2)
        (try clear hk)
        (try clear hi)
        (try clear ho0)
        refine hK.out _ _ ⟨(blk_cell BK800.out 0).trans rfl, (blk_cell BK800.out 1).trans rfl, (blk_cell BK800.out 2).trans rfl⟩ (fun hHeld => ?_)
        clear hK K
        refine norm_ (a' := ?_) ?_ ?_
        rotate_left
        ·show Act.put _ (some 47) _ = _
         simp only [Act.put, List.setIfInBounds_toArray, List.set_cons_zero, List.set_cons_succ, i64_w, i32_w]
         rfl
        refine pure_ (i := 5) (N := some 2) (v := ?_) (a' := ?_) #[true, true, true, true, true, true, false, false] rfl rfl (any_of HT_.out (by kernel_rfl)) (fun _ _ _ h => h) (Or.inl ⟨by rfl, ?_⟩) ?_ ?_
        rotate_left
        ·intro w'
         go_simp
         with_reducible rfl
        rotate_left
        ·simp only [Act.put, List.setIfInBounds_toArray, List.set_cons_zero, List.set_cons_succ, i64_w, i32_w]
         rfl
        refine one_ (i := 6) (N := none) #[true, true, true, true, true, true, true, false] rfl rfl (one_of HT_.out (by kernel_rfl)) (by decide) (fun K hK => ?_)
        have hs45 : w44.cell? ⟨gb784, 0, none⟩ = some (.int .i64 0) := (blk_cell BK784.out 0).trans rfl
        have hfs45 := blk_frozen BK784.out 0
        have hns45_1 := NB800_784.out
        have hms45_1 := NB784_800.out
        have hs46 : w44.cell? ⟨gb784, 1, none⟩ = some (.int .i64 0) := (blk_cell BK784.out 1).trans rfl
        have hfs46 := blk_frozen BK784.out 1
        have hns46_1 := NB800_784.out
        have hms46_1 := NB784_800.out
        have hs47 : w44.cell? ⟨gb784, 2, none⟩ = some (.int .i64 0) := (blk_cell BK784.out 2).trans rfl
        have hfs47 := blk_frozen BK784.out 2
        have hns47_1 := NB800_784.out
        have hms47_1 := NB784_800.out
        refine skip_ (w1 := ?_) (by rfl) rfl ?_ ?_
        rotate_left
        ·go_simp
         rfl
        refine hK.out _ _ ⟨((cell_far (p := ⟨gb784, _, none⟩) NB800_784.out _).trans (((cell_far (p := ⟨gb784, _, none⟩) NB800_784.out _).trans (((cell_far (p := ⟨gb784, _, none⟩) NB800_784.out _).trans (hHeld.1)))))), ((cell_far (p := ⟨gb784, _, none⟩) NB800_784.out _).trans (((cell_far (p := ⟨gb784, _, none⟩) NB800_784.out _).trans (((cell_far (p := ⟨gb784, _, none⟩) NB800_784.out _).trans (hHeld.2.1)))))), ((cell_far (p := ⟨gb784, _, none⟩) NB800_784.out _).trans (((cell_far (p := ⟨gb784, _, none⟩) NB800_784.out _).trans (((cell_far (p := ⟨gb784, _, none⟩) NB800_784.out _).trans (hHeld.2.2))))))⟩ (fun hHeld => ?_)
        clear hK K
        refine pure_ (i := 7) (N := some 4) (v := ?_) (a' := ?_) #[true, true, true, true, true, true, true, true] rfl rfl (any_of HT_.out (by kernel_rfl)) (fun _ _ _ h => h) (Or.inl ⟨by rfl, ?_⟩) ?_ ?_
        rotate_left
        ·intro w'
         go_simp
         with_reducible rfl
        rotate_left
        ·simp only [Act.put, List.setIfInBounds_toArray, List.set_cons_zero, List.set_cons_succ, i64_w, i32_w]
         rfl
        refine done_ (done_of HT_.out (by kernel_rfl)) ?_
        try go_wp2
        refine bodyPost_ret (results_list (rs := [.tmp 2, .cell 3 52, .tmp 4]) rfl (by simp) (.tmp (.cell gb784 52 #[.int .i64 x801000_9, .int .i64 x801001_9, .int .i64 x801002_9] (0, 0) _ rfl (by (with_reducible repeat (first | refine blk_drewN ?_ _ | refine blk_drew ?_ | refine blk_alloc ?_ _)); refine blk_put (cs := #[.int .i64 x801000_9, .int .i64 x801001_9, .int .i64 0]) ?_ 2 _ rfl; (with_reducible repeat (first | refine blk_drewN ?_ _ | refine blk_drew ?_ | refine blk_alloc ?_ _)); refine blk_put (cs := #[.int .i64 x801000_9, .int .i64 0, .int .i64 0]) ?_ 1 _ rfl; (with_reducible repeat (first | refine blk_drewN ?_ _ | refine blk_drew ?_ | refine blk_alloc ?_ _)); refine blk_put (cs := #[.int .i64 0, .int .i64 0, .int .i64 0]) ?_ 0 _ rfl; (with_reducible repeat (first | refine blk_drewN ?_ _ | refine blk_drew ?_ | refine blk_alloc ?_ _)); exact BK784.out) Try.underlying52 rfl (by kernel_rfl) (.tmp .nil)))) rfl ?_
        exact ⟨_, _, by first | rfl | (simp [errW_none, errW_some] <;> rfl) | (simp [*, errW_none, errW_some] <;> rfl), by (with_reducible repeat (first | apply Kd.R_alloc | apply Kd.R_drewN | apply Kd.R_drew)); exact Kd.R_mono (Kd.R_far (p := ⟨gb784, 2, none⟩) (Kd.R_far (p := ⟨gb784, 1, none⟩) (Kd.R_far (p := ⟨gb784, 0, none⟩) (Kd.R_types HO_7.out BK784.out (by decide)) (fun _ hk => hk.2) (.int .i64 x801000_9)) (fun _ hk => hk.2) (.int .i64 x801001_9)) (fun _ hk => hk.2) (.int .i64 x801002_9)) (fun _ hk => hk.1.2), by (with_reducible repeat (first | apply Kd.R_alloc | apply Kd.R_drewN | apply Kd.R_drew)); exact Kd.R_mono (Kd.R_far (p := ⟨gb784, 2, none⟩) (Kd.R_far (p := ⟨gb784, 1, none⟩) (Kd.R_far (p := ⟨gb784, 0, none⟩) (Kd.R_types HO813.out BK784.out (by decide)) (fun _ hk => hk.2) (.int .i64 x801000_9)) (fun _ hk => hk.2) (.int .i64 x801001_9)) (fun _ hk => hk.2) (.int .i64 x801002_9)) (fun _ hk => hk.1.2), by repeat (first | (with_reducible first | exact HB.out | apply below_alloc | apply pw_below_drewN | apply below_drew1 | refine below_set ?_ (IsS87.ge HI785.out) | refine below_set ?_ GE784.out | refine below_set ?_ GE800.out) | exact HB.out)⟩
    ·rw [if_neg c9] at H
     exact absurd H (by simp)
   ·rw [if_neg c8] at H
    exact absurd H (by simp)
  ·rw [if_neg c7] at H
   exact absurd H (by simp)
 ·rw [if_neg c6] at H
  exact absurd H (by simp)


def impl_IsList.f (k : Nat) (l0 : List Int) : Option (Bool) := (impl_within.f (l0.length : Int) 1 8).bind fun t209 => (if t209 = true then ((impl_allWithin.f k l0 0 60).bind fun t210 => (some t210)) else (some false))
theorem impl_IsList.mono : ∀ a0 k, LeO (impl_IsList.f k a0) (impl_IsList.f (k + 1) a0) := by
 intro a0 k
 unfold impl_IsList.f
 repeat' first
   | (with_reducible exact impl_allWithin.mono _ _ _ _)
   | (with_reducible exact LeO.refl _)
   | (with_reducible exact LeO.none _)
   | (with_reducible refine LeO.ite ?_ ?_)
   | (with_reducible refine LeO.bind ?_ (fun _ => ?_))
   | exact impl_allWithin.mono _ _ _ _
   | exact LeO.none _
   | refine LeO.ite ?_ ?_
   | refine LeO.bind ?_ (fun _ => ?_)
set_option maxHeartbeats 8000000 in
set_option maxRecDepth 100000 in
theorem impl_IsList.calls (k : Nat) (A0 : Option Addr) (c0 : Nat) (l0 : List Int) (r : Bool) (w : World) (hr0 : Kd.C (Kd.int .i64) w A0 l0.length l0) (hc0 : l0.length ≤ c0) (h : impl_IsList.f k l0 = some r) :
  Calls Try.prog 81 #[.slice A0 l0.length c0] w fun e w' => e = .returned (.bool r) ∧ Drawn0 w w' := by
 have HR0 := Aside0.mk hr0
 have HC0 := Aside0.mk hc0
 clear hr0 hc0
 have H : ((impl_within.f (l0.length : Int) 1 8).bind fun t209 => (if t209 = true then ((impl_allWithin.f k l0 0 60).bind fun t210 => (some t210)) else (some false))) = some r := h
 clear h
 replace H := Option.bind_eq_some_iff.mp H
 obtain ⟨t209, A20, H⟩ := H
 replace H : (if t209 = true then ((impl_allWithin.f k l0 0 60).bind fun t210 => (some t210)) else (some false)) = some r := H
 have A2 := Aside0.mk A20
 clear A20
 by_cases c3 : t209 = true
 ·subst c3
  have H1 : ((impl_allWithin.f k l0 0 60).bind fun t210 => (some t210)) = some r := by rw [if_pos rfl] at H; exact H
  clear H
  have H := H1
  clear H1
  replace H := Option.bind_eq_some_iff.mp H
  obtain ⟨t210, A40, H⟩ := H
  replace H : (some t210) = some r := H
  have A4 := Aside0.mk A40
  clear A40
  obtain rfl := Option.some.inj H
  go_enter Try.func81, Try.ntmps81
  go_wp2_with (first | ((with_reducible refine gate_callee (f := 173) rfl ?_); refine goesL_ (some 5) rfl rfl Try.func173 (by kernel_rfl) rfl #[.int .i64 (l0.length : Int), .int .i64 1, .int .i64 8] rfl (by (try simp only [List.map_toArray, List.map_cons, List.map_nil]); first | done | rfl | (simp only [List.length_drop, List.length_take]; rfl)) ?_; (with_reducible refine (impl_within.calls (l0.length : Int) 1 8 true _ A2.out).mono ?_); rintro e w' ⟨rfl, ⟨nd, rfl⟩⟩; refine ⟨_, rfl, ?_⟩) | (go_at_call 174; (with_reducible refine (impl_allWithin.calls k _ _ l0 0 60 t210 _ ?side1 ?side2 A4.out).mono ?_); (case side1 => repeat (first | exact HR0.out | (with_reducible refine Kd.C_alloc ?_ _) | (with_reducible refine Kd.C_drewN ?_ _) | (with_reducible refine Kd.C_drew ?_))); (case side2 => exact HC0.out); rintro e w' ⟨rfl, ⟨nd, rfl⟩⟩))
  go_ret
  exact ⟨by first | rfl | (simp; done) | (simp [*]; done), by repeat (first | exact Drawn0.refl _ | apply Drawn0.step)⟩
 ·replace c3 := Bool.eq_false_iff.mpr c3
  subst c3
  have H1 : (some false) = some r := by rw [if_neg (show ¬ (false = true) by decide)] at H; exact H
  clear H
  have H := H1
  clear H1
  obtain rfl := Option.some.inj H
  go_enter Try.func81, Try.ntmps81
  go_wp2_with (first | ((with_reducible refine gate_callee (f := 173) rfl ?_); refine goesL_ (some 5) rfl rfl Try.func173 (by kernel_rfl) rfl #[.int .i64 (l0.length : Int), .int .i64 1, .int .i64 8] rfl (by (try simp only [List.map_toArray, List.map_cons, List.map_nil]); first | done | rfl | (simp only [List.length_drop, List.length_take]; rfl)) ?_; (with_reducible refine (impl_within.calls (l0.length : Int) 1 8 false _ A2.out).mono ?_); rintro e w' ⟨rfl, ⟨nd, rfl⟩⟩; refine ⟨_, rfl, ?_⟩))
  go_ret
  exact ⟨by first | rfl | (simp; done) | (simp [*]; done), by repeat (first | exact Drawn0.refl _ | apply Drawn0.step)⟩


def impl_given.f (l0 : List Int) (a1_0 : Int) (a1_1 : Int) (a1_2 : Int) : Option (List Int) := (slices_Clone_int_int.f l0).bind fun t289 => (if 0 ≤ a1_0 then (if a1_0 < (t289.length : Int) then ((some (t289.set (a1_0 : Int).toNat (wrap64 ((rd t289 a1_0) - a1_2)) : List Int)).bind fun y293 => (if 0 ≤ a1_1 then (if a1_1 < (t289.length : Int) then (some (y293.set (a1_1 : Int).toNat (wrap64 ((rd y293 a1_1) + a1_2)))) else (none)) else (none))) else (none)) else (none))
def impl_given.T2 : Bool × List (List Nat × List Nat) := (true, [([], []), ([], []), ([1], [1]), ([0, 2], [0, 2]), ([3], [3]), ([], []), ([5], [5]), ([4, 6], [4, 6]), ([0, 2, 0, 1, 2, 3, 4, 5, 6, 7], [0, 2]), ([8, 7, 0, 1, 2, 3, 4, 5, 6, 7], [7, 8])])
def impl_given.B2 : List Nat := [0, 0, 2, 7, 15, 0, 32, 127, 255, 511]
theorem impl_given.tab2 : rtab .any (opsOf Try.f150 2) = impl_given.T2 := by kernel_rfl
theorem impl_given.bits2 : waitsOk impl_given.T2.2 impl_given.B2 = true := by kernel_rfl
def impl_given.T3 : Bool × List (List Nat × List Nat) := (true, [([], []), ([], []), ([1], [1]), ([0, 2], [0, 2]), ([3], [3]), ([], []), ([5], [5]), ([4, 6], [4, 6]), ([0, 2, 0, 1, 2, 3, 4, 5, 6, 7], [0, 2]), ([8, 7, 0, 1, 2, 3, 4, 5, 6, 7], [7, 8])])
def impl_given.B3 : List Nat := [0, 0, 2, 7, 15, 0, 32, 127, 255, 511]
theorem impl_given.tab3 : rtab .any (opsOf Try.f150 3) = impl_given.T3 := by kernel_rfl
theorem impl_given.bits3 : waitsOk impl_given.T3.2 impl_given.B3 = true := by kernel_rfl
set_option maxHeartbeats 8000000 in
set_option maxRecDepth 100000 in
theorem impl_given.calls (A0 : Option Addr) (c0 : Nat) (l0 : List Int) (a1_0 : Int) (a1_1 : Int) (a1_2 : Int) (r : List Int) (w : World) (hr0 : Kd.C (Kd.int .i64) w A0 l0.length l0) (hc0 : l0.length ≤ c0) (h : impl_given.f l0 a1_0 a1_1 a1_2 = some r) :
  Calls Try.prog 150 #[.slice A0 l0.length c0, .agg #[.int .i64 a1_0, .int .i64 a1_1, .int .i64 a1_2]] w fun e w' => ∃ v0_ : Value, e = .returned (v0_) ∧ Kd.R (Kd.int .i64) 3 w' w.heap.size (fun _ => True) v0_ r ∧ Below w.heap.size w w' := by
 have hu52 := Try.underlying52
 have HR0 := Aside0.mk hr0
 have HC0 := Aside0.mk hc0
 clear hr0 hc0
 have HB := Aside0.mk (Below.refl w.heap.size w)
 have H : ((slices_Clone_int_int.f l0).bind fun t289 => (if 0 ≤ a1_0 then (if a1_0 < (t289.length : Int) then ((some (t289.set (a1_0 : Int).toNat (wrap64 ((rd t289 a1_0) - a1_2)) : List Int)).bind fun y293 => (if 0 ≤ a1_1 then (if a1_1 < (t289.length : Int) then (some (y293.set (a1_1 : Int).toNat (wrap64 ((rd y293 a1_1) + a1_2)))) else (none)) else (none))) else (none)) else (none))) = some r := h
 clear h
 replace H := Option.bind_eq_some_iff.mp H
 obtain ⟨t289, A30, H⟩ := H
 replace H : (if 0 ≤ a1_0 then (if a1_0 < (t289.length : Int) then ((some (t289.set (a1_0 : Int).toNat (wrap64 ((rd t289 a1_0) - a1_2)) : List Int)).bind fun y293 => (if 0 ≤ a1_1 then (if a1_1 < (t289.length : Int) then (some (y293.set (a1_1 : Int).toNat (wrap64 ((rd y293 a1_1) + a1_2)))) else (none)) else (none))) else (none)) else (none)) = some r := H
 have A3 := Aside0.mk A30
 clear A30
 by_cases c4 : 0 ≤ a1_0
 ·rw [if_pos c4] at H
  have c4b0 : decide (0 ≤ a1_0) = true := decide_eq_true c4
  clear c4
  by_cases c5 : a1_0 < (t289.length : Int)
  ·rw [if_pos c5] at H
   have c5b0 : decide (a1_0 < (t289.length : Int)) = true := decide_eq_true c5
   clear c5
   obtain ⟨y293, hy293⟩ : ∃ y_ : List Int, y_ = (t289.set (a1_0 : Int).toNat (wrap64 ((rd t289 a1_0) - a1_2))) := ⟨_, rfl⟩
   replace H : (if 0 ≤ a1_1 then (if a1_1 < (t289.length : Int) then (some (y293.set (a1_1 : Int).toNat (wrap64 ((rd y293 a1_1) + a1_2)))) else (none)) else (none)) = some r := by first | (rw [hy293]; with_reducible exact H) | (have H2_ := (Option.bind_some _ _).symm.trans H; rw [hy293]; with_reducible exact H2_) | (have H2_ := (Option.bind_some _ _).symm.trans H; with_reducible exact H2_) | with_reducible exact H | (rw [hy293]; exact H) | exact H
   have Ny293 := Aside0.mk hy293
   clear hy293
   by_cases c7 : 0 ≤ a1_1
   ·rw [if_pos c7] at H
    have c7b0 : decide (0 ≤ a1_1) = true := decide_eq_true c7
    clear c7
    by_cases c8 : a1_1 < (t289.length : Int)
    ·rw [if_pos c8] at H
     have c8b0 : decide (a1_1 < (t289.length : Int)) = true := decide_eq_true c8
     clear c8
     obtain ⟨y295, hy295⟩ : ∃ y_ : List Int, y_ = (y293.set (a1_1 : Int).toNat (wrap64 ((rd y293 a1_1) + a1_2))) := ⟨_, rfl⟩
     replace H : (some y295) = some r := by first | (rw [hy295]; with_reducible exact H) | (have H2_ := (Option.bind_some _ _).symm.trans H; rw [hy295]; with_reducible exact H2_) | (have H2_ := (Option.bind_some _ _).symm.trans H; with_reducible exact H2_) | with_reducible exact H | (rw [hy295]; exact H) | exact H
     have Ny295 := Aside0.mk hy295
     clear hy295
     obtain rfl := Option.some.inj H
     go_enter Try.func150, Try.ntmps150
     try go_wp2_with (first | ((with_reducible refine gate_dst (N := 3) rfl ?_); refine box_event ?hg (N := 3) ?hd (cs := #[.int .i64 a1_0, .int .i64 a1_1, .int .i64 a1_2]) (t := 52) ?hr ?_; (case hd => rfl); (case hg => rfl); (case hr => first | (go_simp; done) | (go_simp; rfl)); intro gb288 hg w10 hbox hb; have n0_ := Aside0.mk (below_step (by repeat (first | (with_reducible first | exact HB.out | apply below_alloc | apply pw_below_drewN | apply below_drew1) | exact HB.out)) hb); have n1_ := Aside0.mk (hbox); have n2_ := Aside0.mk ((by rw [hg]; exact (below_size (by repeat (first | (with_reducible first | exact HB.out | apply below_alloc | apply pw_below_drewN | apply below_drew1) | exact HB.out))) : w.heap.size ≤ gb288)); have n3_ := Aside0.mk ((by rw [hg]; exact (below_size (by repeat (first | (with_reducible first | exact HB.out | apply below_alloc | apply pw_below_drewN | apply below_drew1) | exact HB.out))) : w.heap.size ≤ gb288)); clear HB; have HB := n0_; have BK288 := n1_; have GW288 := n2_; have GE288 := n3_; clear n0_ n1_ n2_ n3_; clear hb hbox hg) | ((with_reducible refine gate_callee (f := 199) rfl ?_); refine goesL_ (some 7) rfl rfl Try.func199 (by kernel_rfl) rfl #[.slice A0 l0.length c0] rfl (by (try simp only [List.map_toArray, List.map_cons, List.map_nil]); first | done | rfl | (simp only [List.length_drop, List.length_take]; rfl)) ?_; (with_reducible refine (slices_Clone_int_int.calls _ _ l0 t289 _ ?side1 ?side2 A3.out).mono ?_); (case side1 => repeat (first | exact (Kd.C_below HR0.out HB.out) | (with_reducible refine Kd.C_alloc ?_ _) | (with_reducible refine Kd.C_drewN ?_ _) | (with_reducible refine Kd.C_drew ?_))); (case side2 => exact HC0.out); rintro e w11 ⟨v290, rfl, ho0, hb⟩; refine ⟨_, rfl, ?_⟩; have n0_ := Aside0.mk (Kd.R_lower ho0 (below_size (by repeat (first | (with_reducible first | exact HB.out | apply below_alloc | apply pw_below_drewN | apply below_drew1 | refine below_set ?_ GE288.out) | exact HB.out)))); have n1_ := Aside0.mk (blk_below (g := gb288) (o := .cells #[.int .i64 a1_0, .int .i64 a1_1, .int .i64 a1_2] 52 (0, 0)) (by (with_reducible repeat (first | refine blk_drewN ?_ _ | refine blk_drew ?_ | refine blk_alloc ?_ _)); exact BK288.out) hb); have n2_ := Aside0.mk (below_step (by repeat (first | (with_reducible first | exact HB.out | apply below_alloc | apply pw_below_drewN | apply below_drew1 | refine below_set ?_ GE288.out) | exact HB.out)) hb); clear BK288; clear HB; have HO291 := n0_; have BK288 := n1_; have HB := n2_; clear n0_ n1_ n2_; (try clear hb); (try clear hb2); (try clear hk); (try clear hi); (try clear ho0)))
     have n0_ := Aside0.mk (Kd.R_drew HO291.out)
     have n1_ := Aside0.mk (blk_drew BK288.out)
     have n2_ := Aside0.mk (below_drew1 HB.out)
     clear HO291
     clear BK288
     clear HB
     have HO291 := n0_
     have BK288 := n1_
     have HB := n2_
     clear n0_ n1_ n2_
     obtain ⟨Ao13, co13, eo13⟩ := Kd.R_slice HO291.out
     (first | subst eo13 | (injection eo13 with f1_ f2_ f3_; have f4_ := f1_.symm; have f5_ := f3_.symm; clear f1_ f2_ f3_; subst f4_; subst f5_))
     have p292 : 0 ≤ (a1_0 : Int) := of_decide_eq_true (by first | (with_reducible assumption) | assumption)
     have q292 : a1_0 < (t289.length : Int) := of_decide_eq_true (by first | (with_reducible assumption) | assumption)
     obtain ⟨ad292, e292, hx292_0⟩ := Kd.at_int (Kd.R_reads' HO291.out).2.2 a1_0 p292 q292
     cases e292
     replace p292 := eq_true p292
     replace q292 := eq_true q292
     have p6 : 0 ≤ (a1_0 : Int) := of_decide_eq_true (by first | (with_reducible assumption) | assumption)
     have q6 : (a1_0 : Int) < ((t289.length : Int) : Int) := of_decide_eq_true (by first | (with_reducible assumption) | assumption)
     obtain ⟨go6, co6, eo6, gb6, gl6, cl6, HG6⟩ := Kd.R_form HO291.out (by omega)
     (first | cases eo6 | (injection eo6 with ea_ en_ ec_; (first | subst ea_ | (injection ea_ with ea_; subst ea_)); subst ec_; clear en_))
     have GB6 := Aside0.mk gb6
     have GG6 := Aside0.mk HG6
     clear gb6 gl6 HG6
     (first | simp only [add_plain] at hx292_0 | skip)
     obtain ⟨hx6_0, hf6_0⟩ := Kd.R_celln 0 HO291.out (a1_0 : Int) p6 q6
     replace p6 := eq_true p6
     replace q6 := eq_true q6
     have HP14 := Kd.R_putn HO291.out (a1_0 : Int) (wrap64 ((rd t289 a1_0) - a1_2))
     rw [← Ny293.out] at HP14
     have HQ14 := Aside0.mk HP14
     clear HP14
     refine start_ (n := 10) (S := fun w' => w'.cell? ⟨gb288, 0, none⟩ = some (.int .i64 a1_0) ∧ w'.cell? ⟨gb288, 1, none⟩ = some (.int .i64 a1_1) ∧ w'.cell? ⟨gb288, 2, none⟩ = some (.int .i64 a1_2) ∧ w'.cell? ⟨go6, (a1_0).toNat, none⟩ = some (.int .i64 (rd t289 a1_0))) (ds := [9]) #[false, false, false, false, false, false, false, false, false, false] (by kernel_rfl) rfl rfl ⟨(blk_cell BK288.out 0).trans rfl, (blk_cell BK288.out 1).trans rfl, (blk_cell BK288.out 2).trans rfl, hx292_0⟩ (fun hHeld => ?_); refine with_tabW impl_given.tab2 impl_given.bits2 (fun HT_ HW_ => ?_)
     generalize w11.drew = w12 at HO291 BK288 HB GG6 HQ14 hf6_0 hx292_0 hx6_0 hHeld ⊢
     refine pure_ (i := 0) (N := some 8) (v := ?_) (a' := ?_) #[true, false, false, false, false, false, false, false, false, false] rfl rfl (any_of HT_.out (by kernel_rfl)) (fun _ _ _ h => h) (Or.inl ⟨by rfl, ?_⟩) ?_ ?_
     rotate_left
     ·intro w'
      go_simp
      with_reducible rfl
     rotate_left
     ·simp only [Act.put, List.setIfInBounds_toArray, List.set_cons_zero, List.set_cons_succ, i64_w, i32_w]
      rfl
     refine pure_ (i := 1) (N := some 9) (v := ?_) (a' := ?_) #[true, true, false, false, false, false, false, false, false, false] rfl rfl (any_of HT_.out (by kernel_rfl)) (fun _ _ _ h => h) (Or.inl ⟨by rfl, ?_⟩) ?_ ?_
     rotate_left
     ·intro w'
      go_simp
      with_reducible rfl
     rotate_left
     ·simp only [Act.put, List.setIfInBounds_toArray, List.set_cons_zero, List.set_cons_succ, i64_w, i32_w]
      rfl
     refine pure_ (i := 5) (N := some 13) (v := ?_) (a' := ?_) #[true, true, false, false, false, true, false, false, false, false] rfl rfl (any_of HT_.out (by kernel_rfl)) (fun _ _ _ h => h) (Or.inl ⟨by rfl, ?_⟩) ?_ ?_
     rotate_left
     ·intro w'
      go_simp
      with_reducible rfl
     rotate_left
     ·simp only [Act.put, List.setIfInBounds_toArray, List.set_cons_zero, List.set_cons_succ, i64_w, i32_w]
      rfl
     refine take_ (i := 2) (N := some 10) (v := ?_) (a' := ?_) #[true, true, true, false, false, true, false, false, false, false] rfl rfl (take_ofW HT_.out HW_.out (by kernel_rfl)) (fun _ _ _ h => h) (Or.inl ⟨by rfl, ?_⟩) hHeld ?_ ?_
     rotate_left
     ·rintro w' ⟨s0, s1, s2, s3⟩
      go_simp
      with_reducible rfl
     rotate_left
     ·simp only [Act.put, List.setIfInBounds_toArray, List.set_cons_zero, List.set_cons_succ, i64_w, i32_w]
      rfl
     refine pure_ (i := 3) (N := some 11) (v := ?_) (a' := ?_) #[true, true, true, true, false, true, false, false, false, false] rfl rfl (any_of HT_.out (by kernel_rfl)) (fun _ _ _ h => h) (Or.inl ⟨by rfl, ?_⟩) ?_ ?_
     rotate_left
     ·intro w'
      go_simp
      with_reducible rfl
     rotate_left
     ·simp only [Act.put, List.setIfInBounds_toArray, List.set_cons_zero, List.set_cons_succ, i64_w, i32_w]
      rfl
     refine take_ (i := 4) (N := some 12) (v := ?_) (a' := ?_) #[true, true, true, true, true, true, false, false, false, false] rfl rfl (take_ofW HT_.out HW_.out (by kernel_rfl)) (fun _ _ _ h => h) (Or.inl ⟨by rfl, ?_⟩) hHeld ?_ ?_
     rotate_left
     ·rintro w' ⟨s0, s1, s2, s3⟩
      go_simp
      with_reducible rfl
     rotate_left
     ·simp only [Act.put, List.setIfInBounds_toArray, List.set_cons_zero, List.set_cons_succ, i64_w, i32_w]
      rfl
     refine take_ (i := 6) (N := some 14) (v := ?_) (a' := ?_) #[true, true, true, true, true, true, true, false, false, false] rfl rfl (take_ofW HT_.out HW_.out (by kernel_rfl)) (fun _ _ _ h => h) (Or.inl ⟨by rfl, ?_⟩) hHeld ?_ ?_
     rotate_left
     ·rintro w' ⟨s0, s1, s2, s3⟩
      go_simp
      with_reducible rfl
     rotate_left
     ·simp only [Act.put, List.setIfInBounds_toArray, List.set_cons_zero, List.set_cons_succ, i64_w, i32_w]
      rfl
     refine pure_ (i := 7) (N := some 15) (v := ?_) (a' := ?_) #[true, true, true, true, true, true, true, true, false, false] rfl rfl (any_of HT_.out (by kernel_rfl)) (fun _ _ _ h => h) (Or.inl ⟨by rfl, ?_⟩) ?_ ?_
     rotate_left
     ·intro w'
      go_simp
      with_reducible rfl
     rotate_left
     ·simp only [Act.put, List.setIfInBounds_toArray, List.set_cons_zero, List.set_cons_succ, i64_w, i32_w]
      rfl
     refine pure_ (i := 8) (N := some 16) (v := ?_) (a' := ?_) #[true, true, true, true, true, true, true, true, true, false] rfl rfl (any_of HT_.out (by kernel_rfl)) (fun _ _ _ h => h) (Or.inl ⟨by rfl, ?_⟩) ?_ ?_
     rotate_left
     ·intro w'
      go_simp
      with_reducible rfl
     rotate_left
     ·simp only [Act.put, List.setIfInBounds_toArray, List.set_cons_zero, List.set_cons_succ, i64_w, i32_w]
      rfl
     refine last_ (i := 9) (N := none) #[true, true, true, true, true, true, true, true, true, true] rfl rfl (one_of HT_.out (by kernel_rfl)) (by decide) (fun K hK => ?_)
     refine skip_ (w1 := ?_) (by rfl) rfl ?_ ?_
     rotate_left
     ·go_simp
      rfl
     refine hK.out _ _ ?_
     clear hK K
     refine done_ (done_of HT_.out (by kernel_rfl)) ?_
     try go_wp2
     have n0_ : Aside0 (Kd.R (Kd.int .i64) 3 (w12.setCell ⟨go6, (a1_0 : Int).toNat, none⟩ (.int .i64 (wrap64 ((rd t289 a1_0) - a1_2)))) w.heap.size (fun _ => True) (.slice (some ⟨go6, 0, none⟩) t289.length co13) y293) := ⟨by (with_reducible repeat (first | apply Kd.R_alloc | apply Kd.R_drewN | apply Kd.R_drew)); exact HQ14.out⟩
     have n1_ : Aside0 ((w12.setCell ⟨go6, (a1_0 : Int).toNat, none⟩ (.int .i64 (wrap64 ((rd t289 a1_0) - a1_2)))).heap[gb288]? = some (.cells #[.int .i64 a1_0, .int .i64 a1_1, .int .i64 a1_2] 52 (0, 0))) := ⟨by (with_reducible repeat (first | refine blk_drewN ?_ _ | refine blk_drew ?_ | refine blk_alloc ?_ _)); refine blk_far ?_ (by have h_ := Kd.R_ne HO291.out BK288.out (by decide); intro e_; exact h_ (by rw [e_]; rfl)) _; (with_reducible repeat (first | refine blk_drewN ?_ _ | refine blk_drew ?_ | refine blk_alloc ?_ _)); exact BK288.out⟩
     have n2_ : Aside0 (Below w.heap.size w (w12.setCell ⟨go6, (a1_0 : Int).toNat, none⟩ (.int .i64 (wrap64 ((rd t289 a1_0) - a1_2))))) := ⟨by repeat (first | (with_reducible first | exact HB.out | apply below_alloc | apply pw_below_drewN | apply below_drew1 | refine below_set ?_ GB6.out | refine below_set ?_ GE288.out) | exact HB.out)⟩
     (try clear HO291)
     (try clear BK288)
     (try clear HB)
     generalize (w12.setCell ⟨go6, (a1_0 : Int).toNat, none⟩ (.int .i64 (wrap64 ((rd t289 a1_0) - a1_2)))) = w15 at n0_ n1_ n2_ ⊢
     have HO291 := n0_
     have BK288 := n1_
     have HB := n2_
     clear n0_ n1_ n2_
     have n0_ := Aside0.mk (Kd.R_drew HO291.out)
     have n1_ := Aside0.mk (blk_drew BK288.out)
     have n2_ := Aside0.mk (below_drew1 HB.out)
     clear HO291
     clear BK288
     clear HB
     have HO291 := n0_
     have BK288 := n1_
     have HB := n2_
     clear n0_ n1_ n2_
     have p294 : 0 ≤ (a1_1 : Int) := of_decide_eq_true (by first | (with_reducible assumption) | assumption)
     have q294 : a1_1 < (y293.length : Int) := (by have h_ : (a1_1 : Int) < ((t289.length : Int) : Int) := of_decide_eq_true (by first | (with_reducible assumption) | assumption); first | (have e_ := (Kd.R_reads' HO291.out).1; omega) | simpa only [Ny293.out, List.length_set] using h_)
     have ql294 : ((a1_1 : Int) < ((t289.length : Int) : Int)) = True := eq_true (of_decide_eq_true (by first | (with_reducible assumption) | assumption))
     obtain ⟨ad294, e294, hx294_0⟩ := Kd.at_int (Kd.R_reads' HO291.out).2.2 a1_1 p294 q294
     obtain rfl : (⟨go6, 0, none⟩ : Addr) = ad294 := (by injection e294)
     (first | simp only [add_plain] at hx294_0 | simp only [add_at] at hx294_0 | simp only [Addr.add, Nat.zero_add] at hx294_0 | skip)
     replace p294 := eq_true p294
     replace q294 := eq_true q294
     have p9 : 0 ≤ (a1_1 : Int) := of_decide_eq_true (by first | (with_reducible assumption) | assumption)
     have q9 : (a1_1 : Int) < ((t289.length : Int) : Int) := of_decide_eq_true (by first | (with_reducible assumption) | assumption)
     obtain ⟨hx9_0, hf9_0⟩ := Kd.R_celln 0 HO291.out (a1_1 : Int) p9 q9
     replace p9 := eq_true p9
     replace q9 := eq_true q9
     have HP17 := Kd.R_putn HO291.out (a1_1 : Int) (wrap64 ((rd y293 a1_1) + a1_2))
     rw [← Ny295.out] at HP17
     have HQ17 := Aside0.mk HP17
     clear HP17
     refine start_ (n := 10) (S := fun w' => w'.cell? ⟨gb288, 0, none⟩ = some (.int .i64 a1_0) ∧ w'.cell? ⟨gb288, 1, none⟩ = some (.int .i64 a1_1) ∧ w'.cell? ⟨gb288, 2, none⟩ = some (.int .i64 a1_2) ∧ w'.cell? ⟨go6, (a1_1).toNat, none⟩ = some (.int .i64 (rd y293 a1_1))) (ds := [9]) #[false, false, false, false, false, false, false, false, false, false] (by kernel_rfl) rfl rfl ⟨(blk_cell BK288.out 0).trans rfl, (blk_cell BK288.out 1).trans rfl, (blk_cell BK288.out 2).trans rfl, hx294_0⟩ (fun hHeld => ?_); refine with_tabW impl_given.tab3 impl_given.bits3 (fun HT_ HW_ => ?_)
     generalize w15.drew = w16 at HO291 BK288 HB HQ14 HQ17 hf9_0 hx294_0 hx9_0 hHeld ⊢
     refine pure_ (i := 0) (N := some 17) (v := ?_) (a' := ?_) #[true, false, false, false, false, false, false, false, false, false] rfl rfl (any_of HT_.out (by kernel_rfl)) (fun _ _ _ h => h) (Or.inl ⟨by rfl, ?_⟩) ?_ ?_
     rotate_left
     ·intro w'
      go_simp
      with_reducible rfl
     rotate_left
     ·simp only [Act.put, List.setIfInBounds_toArray, List.set_cons_zero, List.set_cons_succ, i64_w, i32_w]
      rfl
     refine pure_ (i := 1) (N := some 18) (v := ?_) (a' := ?_) #[true, true, false, false, false, false, false, false, false, false] rfl rfl (any_of HT_.out (by kernel_rfl)) (fun _ _ _ h => h) (Or.inl ⟨by rfl, ?_⟩) ?_ ?_
     rotate_left
     ·intro w'
      go_simp
      with_reducible rfl
     rotate_left
     ·simp only [Act.put, List.setIfInBounds_toArray, List.set_cons_zero, List.set_cons_succ, i64_w, i32_w]
      rfl
     refine pure_ (i := 5) (N := some 22) (v := ?_) (a' := ?_) #[true, true, false, false, false, true, false, false, false, false] rfl rfl (any_of HT_.out (by kernel_rfl)) (fun _ _ _ h => h) (Or.inl ⟨by rfl, ?_⟩) ?_ ?_
     rotate_left
     ·intro w'
      go_simp
      with_reducible rfl
     rotate_left
     ·simp only [Act.put, List.setIfInBounds_toArray, List.set_cons_zero, List.set_cons_succ, i64_w, i32_w]
      rfl
     refine take_ (i := 2) (N := some 19) (v := ?_) (a' := ?_) #[true, true, true, false, false, true, false, false, false, false] rfl rfl (take_ofW HT_.out HW_.out (by kernel_rfl)) (fun _ _ _ h => h) (Or.inl ⟨by rfl, ?_⟩) hHeld ?_ ?_
     rotate_left
     ·rintro w' ⟨s0, s1, s2, s3⟩
      go_simp
      with_reducible rfl
     rotate_left
     ·simp only [Act.put, List.setIfInBounds_toArray, List.set_cons_zero, List.set_cons_succ, i64_w, i32_w]
      rfl
     refine pure_ (i := 3) (N := some 20) (v := ?_) (a' := ?_) #[true, true, true, true, false, true, false, false, false, false] rfl rfl (any_of HT_.out (by kernel_rfl)) (fun _ _ _ h => h) (Or.inl ⟨by rfl, ?_⟩) ?_ ?_
     rotate_left
     ·intro w'
      go_simp
      with_reducible rfl
     rotate_left
     ·simp only [Act.put, List.setIfInBounds_toArray, List.set_cons_zero, List.set_cons_succ, i64_w, i32_w]
      rfl
     refine take_ (i := 4) (N := some 21) (v := ?_) (a' := ?_) #[true, true, true, true, true, true, false, false, false, false] rfl rfl (take_ofW HT_.out HW_.out (by kernel_rfl)) (fun _ _ _ h => h) (Or.inl ⟨by rfl, ?_⟩) hHeld ?_ ?_
     rotate_left
     ·rintro w' ⟨s0, s1, s2, s3⟩
      go_simp
      with_reducible rfl
     rotate_left
     ·simp only [Act.put, List.setIfInBounds_toArray, List.set_cons_zero, List.set_cons_succ, i64_w, i32_w]
      rfl
     refine take_ (i := 6) (N := some 23) (v := ?_) (a' := ?_) #[true, true, true, true, true, true, true, false, false, false] rfl rfl (take_ofW HT_.out HW_.out (by kernel_rfl)) (fun _ _ _ h => h) (Or.inl ⟨by rfl, ?_⟩) hHeld ?_ ?_
     rotate_left
     ·rintro w' ⟨s0, s1, s2, s3⟩
      go_simp
      with_reducible rfl
     rotate_left
     ·simp only [Act.put, List.setIfInBounds_toArray, List.set_cons_zero, List.set_cons_succ, i64_w, i32_w]
      rfl
     refine pure_ (i := 7) (N := some 24) (v := ?_) (a' := ?_) #[true, true, true, true, true, true, true, true, false, false] rfl rfl (any_of HT_.out (by kernel_rfl)) (fun _ _ _ h => h) (Or.inl ⟨by rfl, ?_⟩) ?_ ?_
     rotate_left
     ·intro w'
      go_simp
      with_reducible rfl
     rotate_left
     ·simp only [Act.put, List.setIfInBounds_toArray, List.set_cons_zero, List.set_cons_succ, i64_w, i32_w]
      rfl
     refine pure_ (i := 8) (N := some 25) (v := ?_) (a' := ?_) #[true, true, true, true, true, true, true, true, true, false] rfl rfl (any_of HT_.out (by kernel_rfl)) (fun _ _ _ h => h) (Or.inl ⟨by rfl, ?_⟩) ?_ ?_
     rotate_left
     ·intro w'
      go_simp
      with_reducible rfl
     rotate_left
     ·simp only [Act.put, List.setIfInBounds_toArray, List.set_cons_zero, List.set_cons_succ, i64_w, i32_w]
      rfl
     refine last_ (i := 9) (N := none) #[true, true, true, true, true, true, true, true, true, true] rfl rfl (one_of HT_.out (by kernel_rfl)) (by decide) (fun K hK => ?_)
     refine skip_ (w1 := ?_) (by rfl) rfl ?_ ?_
     rotate_left
     ·go_simp
      rfl
     refine hK.out _ _ ?_
     clear hK K
     refine done_ (done_of HT_.out (by kernel_rfl)) ?_
     try go_wp2
     go_ret
     exact ⟨_, by first | rfl | (simp [errW_none, errW_some] <;> rfl) | (simp [*, errW_none, errW_some] <;> rfl), by (with_reducible repeat (first | apply Kd.R_alloc | apply Kd.R_drewN | apply Kd.R_drew)); exact HQ17.out, by repeat (first | (with_reducible first | exact HB.out | apply below_alloc | apply pw_below_drewN | apply below_drew1 | refine below_set ?_ GB6.out | refine below_set ?_ GE288.out) | exact HB.out)⟩
    ·rw [if_neg c8] at H
     exact absurd H (by simp)
   ·rw [if_neg c7] at H
    exact absurd H (by simp)
  ·rw [if_neg c5] at H
   exact absurd H (by simp)
 ·rw [if_neg c4] at H
  exact absurd H (by simp)


def impl_DoGift.f (k : Nat) (l0 : List Int) (a1_0 : Int) (a1_1 : Int) (a1_2 : Int) : Option (List Int × Bool) := (impl_IsList.f k l0).bind fun t817 => (if t817 = true then ((impl_canGive.f l0 a1_0 a1_1 a1_2).bind fun t818 => (if t818 = true then ((impl_given.f l0 a1_0 a1_1 a1_2).bind fun t819 => (some (t819, true))) else (some (([] : List Int), false)))) else (some (([] : List Int), false)))
theorem impl_DoGift.mono : ∀ a0 a1 a2 a3 k, LeO (impl_DoGift.f k a0 a1 a2 a3) (impl_DoGift.f (k + 1) a0 a1 a2 a3) := by
 intro a0 a1 a2 a3 k
 unfold impl_DoGift.f
 repeat' first
   | (with_reducible exact impl_IsList.mono _ _)
   | (with_reducible exact LeO.refl _)
   | (with_reducible exact LeO.none _)
   | (with_reducible refine LeO.ite ?_ ?_)
   | (with_reducible refine LeO.bind ?_ (fun _ => ?_))
   | exact impl_IsList.mono _ _
   | exact LeO.none _
   | refine LeO.ite ?_ ?_
   | refine LeO.bind ?_ (fun _ => ?_)
set_option maxHeartbeats 8000000 in
set_option maxRecDepth 100000 in
theorem impl_DoGift.calls (k : Nat) (A0 : Option Addr) (c0 : Nat) (l0 : List Int) (a1_0 : Int) (a1_1 : Int) (a1_2 : Int) (r1 : List Int) (r2 : Bool) (w : World) (hr0 : Kd.C (Kd.int .i64) w A0 l0.length l0) (hc0 : l0.length ≤ c0) (h : impl_DoGift.f k l0 a1_0 a1_1 a1_2 = some (r1, r2)) :
  Calls Try.prog 57 #[.slice A0 l0.length c0, .agg #[.int .i64 a1_0, .int .i64 a1_1, .int .i64 a1_2]] w fun e w' => ∃ v0_ : Value, e = .returned (.tuple #[v0_, .bool r2]) ∧ Kd.R (Kd.int .i64) 3 w' w.heap.size (fun _ => True) v0_ r1 ∧ Below w.heap.size w w' := by
 have hu52 := Try.underlying52
 have HR0 := Aside0.mk hr0
 have HC0 := Aside0.mk hc0
 clear hr0 hc0
 have HB := Aside0.mk (Below.refl w.heap.size w)
 have H : ((impl_IsList.f k l0).bind fun t817 => (if t817 = true then ((impl_canGive.f l0 a1_0 a1_1 a1_2).bind fun t818 => (if t818 = true then ((impl_given.f l0 a1_0 a1_1 a1_2).bind fun t819 => (some (t819, true))) else (some (([] : List Int), false)))) else (some (([] : List Int), false)))) = some (r1, r2) := h
 clear h
 replace H := Option.bind_eq_some_iff.mp H
 obtain ⟨t817, A30, H⟩ := H
 replace H : (if t817 = true then ((impl_canGive.f l0 a1_0 a1_1 a1_2).bind fun t818 => (if t818 = true then ((impl_given.f l0 a1_0 a1_1 a1_2).bind fun t819 => (some (t819, true))) else (some (([] : List Int), false)))) else (some (([] : List Int), false))) = some (r1, r2) := H
 have A3 := Aside0.mk A30
 clear A30
 by_cases c4 : t817 = true
 ·subst c4
  have H1 : ((impl_canGive.f l0 a1_0 a1_1 a1_2).bind fun t818 => (if t818 = true then ((impl_given.f l0 a1_0 a1_1 a1_2).bind fun t819 => (some (t819, true))) else (some (([] : List Int), false)))) = some (r1, r2) := by rw [if_pos rfl] at H; exact H
  clear H
  have H := H1
  clear H1
  replace H := Option.bind_eq_some_iff.mp H
  obtain ⟨t818, A50, H⟩ := H
  replace H : (if t818 = true then ((impl_given.f l0 a1_0 a1_1 a1_2).bind fun t819 => (some (t819, true))) else (some (([] : List Int), false))) = some (r1, r2) := H
  have A5 := Aside0.mk A50
  clear A50
  by_cases c6 : t818 = true
  ·subst c6
   have H1 : ((impl_given.f l0 a1_0 a1_1 a1_2).bind fun t819 => (some (t819, true))) = some (r1, r2) := by rw [if_pos rfl] at H; exact H
   clear H
   have H := H1
   clear H1
   replace H := Option.bind_eq_some_iff.mp H
   obtain ⟨t819, A70, H⟩ := H
   replace H : (some (t819, true)) = some (r1, r2) := H
   have A7 := Aside0.mk A70
   clear A70
   simp only [Option.some.injEq, Prod.mk.injEq] at H
   obtain ⟨rfl, rfl⟩ := H
   go_enter Try.func57, Try.ntmps57
   go_wp2_with (first | ((with_reducible refine gate_dst (N := 3) rfl ?_); refine box_event ?hg (N := 3) ?hd (cs := #[.int .i64 a1_0, .int .i64 a1_1, .int .i64 a1_2]) (t := 52) ?hr ?_; (case hd => rfl); (case hg => rfl); (case hr => first | (go_simp; done) | (go_simp; rfl)); intro gb816 hg w8 hbox hb; have n0_ := Aside0.mk (below_step (by repeat (first | (with_reducible first | exact HB.out | apply below_alloc | apply pw_below_drewN | apply below_drew1) | exact HB.out)) hb); have n1_ := Aside0.mk (hbox); have n2_ := Aside0.mk ((by rw [hg]; exact (below_size (by repeat (first | (with_reducible first | exact HB.out | apply below_alloc | apply pw_below_drewN | apply below_drew1) | exact HB.out))) : w.heap.size ≤ gb816)); have n3_ := Aside0.mk ((by rw [hg]; exact (below_size (by repeat (first | (with_reducible first | exact HB.out | apply below_alloc | apply pw_below_drewN | apply below_drew1) | exact HB.out))) : w.heap.size ≤ gb816)); clear HB; have HB := n0_; have BK816 := n1_; have GW816 := n2_; have GE816 := n3_; clear n0_ n1_ n2_ n3_; clear hb hbox hg) | ((with_reducible refine gate_callee (f := 81) rfl ?_); refine goesL_ (some 7) rfl rfl Try.func81 (by kernel_rfl) rfl #[.slice A0 l0.length c0] rfl (by (try simp only [List.map_toArray, List.map_cons, List.map_nil]); first | done | rfl | (simp only [List.length_drop, List.length_take]; rfl)) ?_; (with_reducible refine (impl_IsList.calls k _ _ l0 true _ ?side1 ?side2 A3.out).mono ?_); (case side1 => repeat (first | exact (Kd.C_below HR0.out HB.out) | (with_reducible refine Kd.C_alloc ?_ _) | (with_reducible refine Kd.C_drewN ?_ _) | (with_reducible refine Kd.C_drew ?_))); (case side2 => exact HC0.out); rintro e w' ⟨rfl, ⟨nd, rfl⟩⟩; refine ⟨_, rfl, ?_⟩; have hcz9_0 : w8.cell? ⟨gb816, 0, none⟩ = some (.int .i64 a1_0) := (blk_cell BK816.out 0).trans rfl; have hcz9_1 : w8.cell? ⟨gb816, 1, none⟩ = some (.int .i64 a1_1) := (blk_cell BK816.out 1).trans rfl; have hcz9_2 : w8.cell? ⟨gb816, 2, none⟩ = some (.int .i64 a1_2) := (blk_cell BK816.out 2).trans rfl; have hfz9_0 := blk_frozen BK816.out 0; have hfz9_1 := blk_frozen BK816.out 1; have hfz9_2 := blk_frozen BK816.out 2) | (go_at_call 149; (with_reducible refine (impl_canGive.calls _ _ l0 a1_0 a1_1 a1_2 true _ ?side1 ?side2 A5.out).mono ?_); (case side1 => repeat (first | exact (Kd.C_below HR0.out (by repeat (first | (with_reducible first | exact HB.out | apply below_alloc | apply pw_below_drewN | apply below_drew1 | refine below_set ?_ GE816.out) | exact HB.out))) | (with_reducible refine Kd.C_alloc ?_ _) | (with_reducible refine Kd.C_drewN ?_ _) | (with_reducible refine Kd.C_drew ?_))); (case side2 => exact HC0.out); rintro e w10 ⟨rfl, hb⟩; have n0_ := Aside0.mk (blk_below (g := gb816) (o := .cells #[.int .i64 a1_0, .int .i64 a1_1, .int .i64 a1_2] 52 (0, 0)) (by (with_reducible repeat (first | refine blk_drewN ?_ _ | refine blk_drew ?_ | refine blk_alloc ?_ _)); exact BK816.out) hb); have n1_ := Aside0.mk (below_step (by repeat (first | (with_reducible first | exact HB.out | apply below_alloc | apply pw_below_drewN | apply below_drew1 | refine below_set ?_ GE816.out) | exact HB.out)) hb); clear BK816; clear HB; have BK816 := n0_; have HB := n1_; clear n0_ n1_; (try clear hb); (try clear hb2); (try clear hk); (try clear hi); have hcz11_0 : w10.cell? ⟨gb816, 0, none⟩ = some (.int .i64 a1_0) := (blk_cell BK816.out 0).trans rfl; have hcz11_1 : w10.cell? ⟨gb816, 1, none⟩ = some (.int .i64 a1_1) := (blk_cell BK816.out 1).trans rfl; have hcz11_2 : w10.cell? ⟨gb816, 2, none⟩ = some (.int .i64 a1_2) := (blk_cell BK816.out 2).trans rfl; have hfz11_0 := blk_frozen BK816.out 0; have hfz11_1 := blk_frozen BK816.out 1; have hfz11_2 := blk_frozen BK816.out 2) | ((with_reducible refine gate_callee (f := 150) rfl ?_); refine goesL_ (some 17) rfl rfl Try.func150 (by kernel_rfl) rfl #[.slice A0 l0.length c0, .agg #[.int .i64 a1_0, .int .i64 a1_1, .int .i64 a1_2]] rfl (by (try simp only [List.map_toArray, List.map_cons, List.map_nil]); first | done | rfl | (simp only [List.length_drop, List.length_take]; rfl)) ?_; (with_reducible refine (impl_given.calls _ _ l0 a1_0 a1_1 a1_2 t819 _ ?side1 ?side2 A7.out).mono ?_); (case side1 => repeat (first | exact (Kd.C_below HR0.out HB.out) | (with_reducible refine Kd.C_alloc ?_ _) | (with_reducible refine Kd.C_drewN ?_ _) | (with_reducible refine Kd.C_drew ?_))); (case side2 => exact HC0.out); rintro e w12 ⟨v820, rfl, ho0, hb⟩; refine ⟨_, rfl, ?_⟩; have n0_ := Aside0.mk (Kd.R_lower ho0 (below_size (by repeat (first | (with_reducible first | exact HB.out | apply below_alloc | apply pw_below_drewN | apply below_drew1 | refine below_set ?_ GE816.out) | exact HB.out)))); have n1_ := Aside0.mk (blk_below (g := gb816) (o := .cells #[.int .i64 a1_0, .int .i64 a1_1, .int .i64 a1_2] 52 (0, 0)) (by (with_reducible repeat (first | refine blk_drewN ?_ _ | refine blk_drew ?_ | refine blk_alloc ?_ _)); exact BK816.out) hb); have n2_ := Aside0.mk (below_step (by repeat (first | (with_reducible first | exact HB.out | apply below_alloc | apply pw_below_drewN | apply below_drew1 | refine below_set ?_ GE816.out) | exact HB.out)) hb); clear BK816; clear HB; have HO821 := n0_; have BK816 := n1_; have HB := n2_; clear n0_ n1_ n2_; (try clear hb); (try clear hb2); (try clear hk); (try clear hi); (try clear ho0)))
   go_ret2
   exact ⟨_, by first | rfl | (simp [errW_none, errW_some] <;> rfl) | (simp [*, errW_none, errW_some] <;> rfl), by (with_reducible repeat (first | apply Kd.R_alloc | apply Kd.R_drewN | apply Kd.R_drew)); exact HO821.out, by repeat (first | (with_reducible first | exact HB.out | apply below_alloc | apply pw_below_drewN | apply below_drew1 | refine below_set ?_ GE816.out) | exact HB.out)⟩
  ·replace c6 := Bool.eq_false_iff.mpr c6
   subst c6
   have H1 : (some (([] : List Int), false)) = some (r1, r2) := by rw [if_neg (show ¬ (false = true) by decide)] at H; exact H
   clear H
   have H := H1
   clear H1
   simp only [Option.some.injEq, Prod.mk.injEq] at H
   obtain ⟨rfl, rfl⟩ := H
   go_enter Try.func57, Try.ntmps57
   go_wp2_with (first | ((with_reducible refine gate_dst (N := 3) rfl ?_); refine box_event ?hg (N := 3) ?hd (cs := #[.int .i64 a1_0, .int .i64 a1_1, .int .i64 a1_2]) (t := 52) ?hr ?_; (case hd => rfl); (case hg => rfl); (case hr => first | (go_simp; done) | (go_simp; rfl)); intro gb816 hg w13 hbox hb; have n0_ := Aside0.mk (below_step (by repeat (first | (with_reducible first | exact HB.out | apply below_alloc | apply pw_below_drewN | apply below_drew1) | exact HB.out)) hb); have n1_ := Aside0.mk (hbox); have n2_ := Aside0.mk ((by rw [hg]; exact (below_size (by repeat (first | (with_reducible first | exact HB.out | apply below_alloc | apply pw_below_drewN | apply below_drew1) | exact HB.out))) : w.heap.size ≤ gb816)); have n3_ := Aside0.mk ((by rw [hg]; exact (below_size (by repeat (first | (with_reducible first | exact HB.out | apply below_alloc | apply pw_below_drewN | apply below_drew1) | exact HB.out))) : w.heap.size ≤ gb816)); clear HB; have HB := n0_; have BK816 := n1_; have GW816 := n2_; have GE816 := n3_; clear n0_ n1_ n2_ n3_; clear hb hbox hg) | ((with_reducible refine gate_callee (f := 81) rfl ?_); refine goesL_ (some 7) rfl rfl Try.func81 (by kernel_rfl) rfl #[.slice A0 l0.length c0] rfl (by (try simp only [List.map_toArray, List.map_cons, List.map_nil]); first | done | rfl | (simp only [List.length_drop, List.length_take]; rfl)) ?_; (with_reducible refine (impl_IsList.calls k _ _ l0 true _ ?side1 ?side2 A3.out).mono ?_); (case side1 => repeat (first | exact (Kd.C_below HR0.out HB.out) | (with_reducible refine Kd.C_alloc ?_ _) | (with_reducible refine Kd.C_drewN ?_ _) | (with_reducible refine Kd.C_drew ?_))); (case side2 => exact HC0.out); rintro e w' ⟨rfl, ⟨nd, rfl⟩⟩; refine ⟨_, rfl, ?_⟩; have hcz14_0 : w13.cell? ⟨gb816, 0, none⟩ = some (.int .i64 a1_0) := (blk_cell BK816.out 0).trans rfl; have hcz14_1 : w13.cell? ⟨gb816, 1, none⟩ = some (.int .i64 a1_1) := (blk_cell BK816.out 1).trans rfl; have hcz14_2 : w13.cell? ⟨gb816, 2, none⟩ = some (.int .i64 a1_2) := (blk_cell BK816.out 2).trans rfl; have hfz14_0 := blk_frozen BK816.out 0; have hfz14_1 := blk_frozen BK816.out 1; have hfz14_2 := blk_frozen BK816.out 2) | (go_at_call 149; (with_reducible refine (impl_canGive.calls _ _ l0 a1_0 a1_1 a1_2 false _ ?side1 ?side2 A5.out).mono ?_); (case side1 => repeat (first | exact (Kd.C_below HR0.out (by repeat (first | (with_reducible first | exact HB.out | apply below_alloc | apply pw_below_drewN | apply below_drew1 | refine below_set ?_ GE816.out) | exact HB.out))) | (with_reducible refine Kd.C_alloc ?_ _) | (with_reducible refine Kd.C_drewN ?_ _) | (with_reducible refine Kd.C_drew ?_))); (case side2 => exact HC0.out); rintro e w15 ⟨rfl, hb⟩; have n0_ := Aside0.mk (blk_below (g := gb816) (o := .cells #[.int .i64 a1_0, .int .i64 a1_1, .int .i64 a1_2] 52 (0, 0)) (by (with_reducible repeat (first | refine blk_drewN ?_ _ | refine blk_drew ?_ | refine blk_alloc ?_ _)); exact BK816.out) hb); have n1_ := Aside0.mk (below_step (by repeat (first | (with_reducible first | exact HB.out | apply below_alloc | apply pw_below_drewN | apply below_drew1 | refine below_set ?_ GE816.out) | exact HB.out)) hb); clear BK816; clear HB; have BK816 := n0_; have HB := n1_; clear n0_ n1_; (try clear hb); (try clear hb2); (try clear hk); (try clear hi)))
   go_ret2
   exact ⟨_, by first | rfl | (simp [errW_none, errW_some] <;> rfl) | (simp [*, errW_none, errW_some] <;> rfl), by first | exact Kd.R_nil _ _ _ _ _ | exact Kd.N_nil _ _ _ _ _ | exact Kd.V_nil _ _ _ _ _ | exact Kd.Q_nil _ _ _ _ _ | exact Kd.S_nil _ _ _ _ _, by repeat (first | (with_reducible first | exact HB.out | apply below_alloc | apply pw_below_drewN | apply below_drew1 | refine below_set ?_ GE816.out) | exact HB.out)⟩
 ·replace c4 := Bool.eq_false_iff.mpr c4
  subst c4
  have H1 : (some (([] : List Int), false)) = some (r1, r2) := by rw [if_neg (show ¬ (false = true) by decide)] at H; exact H
  clear H
  have H := H1
  clear H1
  simp only [Option.some.injEq, Prod.mk.injEq] at H
  obtain ⟨rfl, rfl⟩ := H
  go_enter Try.func57, Try.ntmps57
  go_wp2_with (first | ((with_reducible refine gate_dst (N := 3) rfl ?_); refine box_event ?hg (N := 3) ?hd (cs := #[.int .i64 a1_0, .int .i64 a1_1, .int .i64 a1_2]) (t := 52) ?hr ?_; (case hd => rfl); (case hg => rfl); (case hr => first | (go_simp; done) | (go_simp; rfl)); intro gb816 hg w16 hbox hb; have n0_ := Aside0.mk (below_step (by repeat (first | (with_reducible first | exact HB.out | apply below_alloc | apply pw_below_drewN | apply below_drew1) | exact HB.out)) hb); have n1_ := Aside0.mk (hbox); have n2_ := Aside0.mk ((by rw [hg]; exact (below_size (by repeat (first | (with_reducible first | exact HB.out | apply below_alloc | apply pw_below_drewN | apply below_drew1) | exact HB.out))) : w.heap.size ≤ gb816)); have n3_ := Aside0.mk ((by rw [hg]; exact (below_size (by repeat (first | (with_reducible first | exact HB.out | apply below_alloc | apply pw_below_drewN | apply below_drew1) | exact HB.out))) : w.heap.size ≤ gb816)); clear HB; have HB := n0_; have BK816 := n1_; have GW816 := n2_; have GE816 := n3_; clear n0_ n1_ n2_ n3_; clear hb hbox hg) | ((with_reducible refine gate_callee (f := 81) rfl ?_); refine goesL_ (some 7) rfl rfl Try.func81 (by kernel_rfl) rfl #[.slice A0 l0.length c0] rfl (by (try simp only [List.map_toArray, List.map_cons, List.map_nil]); first | done | rfl | (simp only [List.length_drop, List.length_take]; rfl)) ?_; (with_reducible refine (impl_IsList.calls k _ _ l0 false _ ?side1 ?side2 A3.out).mono ?_); (case side1 => repeat (first | exact (Kd.C_below HR0.out HB.out) | (with_reducible refine Kd.C_alloc ?_ _) | (with_reducible refine Kd.C_drewN ?_ _) | (with_reducible refine Kd.C_drew ?_))); (case side2 => exact HC0.out); rintro e w' ⟨rfl, ⟨nd, rfl⟩⟩; refine ⟨_, rfl, ?_⟩))
  go_ret2
  exact ⟨_, by first | rfl | (simp [errW_none, errW_some] <;> rfl) | (simp [*, errW_none, errW_some] <;> rfl), by first | exact Kd.R_nil _ _ _ _ _ | exact Kd.N_nil _ _ _ _ _ | exact Kd.V_nil _ _ _ _ _ | exact Kd.Q_nil _ _ _ _ _ | exact Kd.S_nil _ _ _ _ _, by repeat (first | (with_reducible first | exact HB.out | apply below_alloc | apply pw_below_drewN | apply below_drew1 | refine below_set ?_ GE816.out) | exact HB.out)⟩

def sprod (ps o : List Int) (n : Nat) : Int := (List.range n).foldl (fun s (i : Nat) => wrap64 (s * powW (o.getD i 0) (ps.getD i 0).toNat)) 1
def ssum (ps : List Int) (vs : List (List Int)) : Int := vs.foldl (fun s o => wrap64 (s + sprod ps o o.length)) 0
theorem sprod_succ (ps o : List Int) (n : Nat) : sprod ps o (n + 1) = wrap64 (sprod ps o n * powW (o.getD n 0) (ps.getD n 0).toNat) := by
  unfold sprod; rw [List.range_succ, List.foldl_append]; rfl
theorem ssum_snoc (ps : List Int) (vs : List (List Int)) (o : List Int) : ssum ps (vs ++ [o]) = wrap64 (ssum ps vs + sprod ps o o.length) := by
  unfold ssum; rw [List.foldl_append]; rfl
set_option maxHeartbeats 4000000 in
set_option maxRecDepth 100000 in
theorem sym_visit (w0 W : World) (ps o : List Int) (Ap Ao : Option Addr) (cp co : Nat) (bs bo : Nat) (tot : Int)
    (hps : Kd.C (Kd.int .i64) w0 Ap ps.length ps) (hcp : ps.length ≤ cp) (ho : Kd.C (Kd.int .i64) W Ao o.length o) (hco : o.length ≤ co) (hl : o.length = ps.length) (hl0 : 0 < ps.length) (hl8 : ps.length ≤ 8) (hsm : ∀ i, ps.getD i 0 ≤ 1000)
    (hbs : W.heap[bs]? = some (.cells #[.slice Ap ps.length cp] 24 (0, 0))) (hbo : W.heap[bo]? = some (.cells #[.int .i64 tot] 3 (0, 0))) (hB : Below w0.heap.size w0 W) (hb0 : w0.heap.size ≤ bo) :
    Calls Try.prog 213 #[.slice Ao o.length co, .pointer (some ⟨bs, 0, none⟩), .pointer (some ⟨bo, 0, none⟩)] W fun e W' => e = .returned (.tuple #[]) ∧ W'.heap[bo]? = some (.cells #[.int .i64 (wrap64 (tot + sprod ps o o.length))] 3 (0, 0)) ∧ Below w0.heap.size w0 W' ∧ Kept W W' (fun k => k = bo) := by
  have cs_ : W.cell? ⟨bs, 0, none⟩ = some (.slice Ap ps.length cp) := (blk_cell hbs 0).trans rfl
  have co_ : W.cell? ⟨bo, 0, none⟩ = some (.int .i64 tot) := (blk_cell hbo 0).trans rfl
  have fo_ := blk_frozen hbo 0
  have hps1 := Kd.C_below hps hB
  obtain ⟨ads, rfl, _⟩ := Kd.at_int hps1 0 (by omega) (by omega)
  obtain ⟨ad, rfl, _⟩ := Kd.at_int ho 0 (by omega) (by omega)
  have HO := Aside0.mk ho
  have HPS := Aside0.mk hps1
  have HB := Aside0.mk hB
  have HL := Aside0.mk hl
  have HB0 := Aside0.mk hb0
  have HSM := Aside0.mk hsm
  have HBO := Aside0.mk hbo
  have hlo : o.length ≤ 8 := by omega
  clear ho hps hps1 hB hl hb0 hsm hbo hbs
  go_enter Try.func213, Try.ntmps213
  go_wp2_with fail
  go_loopg [4, 5, 6, 9] o.length (fun gg s4 _ _ s9 W' => ∃ i : Nat, s4 = .int .i64 (sprod ps o i) ∧ s9 = .int .i64 (i : Int) ∧ i ≤ o.length ∧ o.length - i ≤ gg ∧ Aside0 (∃ nd, W' = W.drewN nd))
  case atStart => exact ⟨0, rfl, rfl, Nat.zero_le _, by omega, ⟨⟨0, rfl⟩⟩⟩
  case round =>
    obtain ⟨i, rfl, rfl, hi, hgg, ⟨nd, rfl⟩⟩ := hrel
    by_cases hlt : i < o.length
    · have hltz : (i : Int) < (o.length : Int) := by omega
      have hlts : (i : Int) < (ps.length : Int) := by have := HL.out; omega
      have hiz : (0 : Int) ≤ (i : Int) := by omega
      obtain ⟨ad', e_, cx⟩ := Kd.at_int HO.out (i : Int) hiz hltz
      injection e_ with e_
      subst e_
      obtain ⟨ads', e_, cn⟩ := Kd.at_int HPS.out (i : Int) hiz hlts
      injection e_ with e_
      subst e_
      rw [Int.toNat_natCast, rd_nat_getD] at cx cn
      obtain ⟨x, hx⟩ : ∃ x, o.getD i 0 = x := ⟨_, rfl⟩
      obtain ⟨n, hn⟩ : ∃ n, ps.getD i 0 = n := ⟨_, rfl⟩
      rw [hx] at cx
      rw [hn] at cn
      obtain ⟨kp, ep⟩ := (power_ev x n (by have := HSM.out i; omega)).rounds
      have EP := Aside0.mk ep
      obtain ⟨g, hg⟩ : ∃ g, sprod ps o i = g := ⟨_, rfl⟩
      have HG := Aside0.mk (show sprod ps o (i + 1) = wrap64 (g * powW x n.toNat) from by rw [sprod_succ, hx, hn, hg])
      rw [hg]
      clear ep hx hn hg
      go_wp2_with (first | (go_at_call 137; (with_reducible refine (impl_power.calls kp x n _ _ EP.out).mono ?_); rintro e w' ⟨rfl, ⟨nd, rfl⟩⟩))
      go_roundg (o.length - (i + 1))
      case measure => omega
      case rel => exact ⟨i + 1, by rw [HG.out], by go_num, by omega, by omega, ⟨⟨_, by first | rfl | exact World.drewN_drewN _ _ _⟩⟩⟩
    · have hltz : ¬ (i : Int) < (o.length : Int) := by omega
      have hie : i = o.length := by omega
      subst hie
      obtain ⟨z, hz⟩ : ∃ z, sprod ps o o.length = z := ⟨_, rfl⟩
      have HZ := Aside0.mk hz
      rw [hz]
      clear hz
      go_wp2_with ((with_reducible refine gate_store (t := 3) (p := 2) rfl ?_); refine store_event (t := 3) (p := 2) (v := ?vst) (w1 := (W.drewN nd).setCell ⟨bo, 0, none⟩ (.int .i64 (wrap64 (tot + z)))) ?hg ?ho ?hn ?hr ?_; (case ho => rfl); (case hg => rfl); (case hn => rfl); (case hr => first | (go_simp; done) | (go_simp; rfl)); intro w9 hw; have HW := Aside0.mk hw; clear hw)
      go_end0
      refine ⟨rfl, ?_, ?_, ?_⟩
      · rw [HW.out, HZ.out]; exact blk_put (w := W.drewN nd) HBO.out 0 _ rfl
      · rw [HW.out]; exact below_set (pw_below_drewN HB.out nd) HB0.out
      · rw [HW.out]; exact ((Kept.refl W (fun k => k = bo)).drewN nd).setCell (.inl rfl) _

def impl_symmetricSum.ok (l0 l1 : List Int) : Prop := 1 ≤ l0.length ∧ l0.length = l1.length ∧ l0.length ≤ 8 ∧ (∀ x ∈ l0, x ≤ 1000) ∧ (exts l1 l1.length 0 []).length ≤ 1000000
instance impl_symmetricSum.okDec (l0 l1 : List Int) : Decidable (impl_symmetricSum.ok l0 l1) := by unfold impl_symmetricSum.ok; infer_instance
def impl_symmetricSum.f (l0 l1 : List Int) : Option Int := if impl_symmetricSum.ok l0 l1 then some (ssum l0 (exts l1 l1.length 0 [])) else none
set_option maxHeartbeats 4000000 in
set_option maxRecDepth 100000 in
theorem impl_symmetricSum.calls (A0 : Option Addr) (c0 : Nat) (l0 : List Int) (A1 : Option Addr) (c1 : Nat) (l1 : List Int) (r : Int) (w : World) (hr0 : Kd.C (Kd.int .i64) w A0 l0.length l0) (hc0 : l0.length ≤ c0) (hr1 : Kd.C (Kd.int .i64) w A1 l1.length l1) (hc1 : l1.length ≤ c1) (h : impl_symmetricSum.f l0 l1 = some r) :
  Calls Try.prog 151 #[.slice A0 l0.length c0, .slice A1 l1.length c1] w fun e w' => e = .returned (.int .i64 r) ∧ Below w.heap.size w w' := by
 unfold impl_symmetricSum.f at h
 by_cases hok : impl_symmetricSum.ok l0 l1
 rotate_left
 ·rw [if_neg hok] at h
  cases h
 rw [if_pos hok] at h
 injection h with h
 obtain ⟨k1, k2, k3, k4, k5⟩ := hok
 have HR0 := Aside0.mk hr0
 have HC0 := Aside0.mk hc0
 have HR1 := Aside0.mk hr1
 have HC1 := Aside0.mk hc1
 have HH := Aside0.mk h
 have K2 := Aside0.mk k2
 have K5 := Aside0.mk k5
 have HSM := Aside0.mk (show ∀ i, l0.getD i 0 ≤ 1000 from fun i => by
  rw [List.getD_eq_getElem?_getD]
  by_cases hi : i < l0.length
  ·rw [List.getElem?_eq_getElem hi]; exact k4 _ (List.getElem_mem hi)
  ·rw [List.getElem?_eq_none (by omega)]; simp)
 clear hr0 hc0 hr1 hc1 h k2 k4 k5
 go_enter Try.func151, Try.ntmps151
 go_wp2_with ((with_reducible refine gate_dst (N := 2) rfl ?_); refine box_event ?hg (N := 2) ?hd (cs := #[.slice A0 l0.length c0]) (t := 24) ?hr ?_; (case hd => rfl); (case hg => rfl); (case hr => first | (go_simp; done) | (go_simp; rfl)); intro bp hg_ wp hx_ hb_; have Ebp := Aside0.mk hg_; have Bbp := Aside0.mk hx_; have Kbp := Aside0.mk hb_; clear hg_ hx_ hb_; apply StopI)
 obtain ⟨bo, hbo⟩ : ∃ bo, wp.heap.size = bo := ⟨_, rfl⟩
 obtain ⟨w3, hw3⟩ : ∃ w3, wp.alloc (.cells #[.int .i64 0] 3) = w3 := ⟨_, rfl⟩
 have BO := Aside0.mk (show w3.heap[bo]? = some (.cells #[.int .i64 0] 3 (0, 0)) from by rw [← hw3, ← hbo]; exact blk_new _ _)
 have BP := Aside0.mk (show w3.heap[bp]? = some (.cells #[.slice A0 l0.length c0] 24 (0, 0)) from by rw [← hw3]; exact blk_alloc Bbp.out _)
 have KO := Aside0.mk (show Below wp.heap.size wp w3 from by rw [← hw3]; exact below_alloc (Below.refl _ _) _)
 have HR0p := Aside0.mk (Kd.C_below HR0.out Kbp.out)
 have HR1p := Aside0.mk (Kd.C_below HR1.out Kbp.out)
 have LB := Aside0.mk (show wp.heap.size ≤ bo from Nat.le_of_eq hbo)
 have LP := Aside0.mk (blk_lt Bbp.out)
 have EB := Aside0.mk hbo
 have EW := Aside0.mk hw3
 clear hbo hw3
 have HORD := Aside0.mk (impl_orders.calls 213 #[.pointer (some ⟨bp, 0, none⟩), .pointer (some ⟨bo, 0, none⟩)] (by intro args w; rfl)
  (fun vs W own => W.heap[bo]? = some (.cells #[.int .i64 (ssum l0 vs)] 3 (0, 0)) ∧ ∀ k, own k ↔ k = bo) 1000000 wp l1 A1 c1 HR1p.out HC1.out (by have := K2.out; omega)
  (fun vs W own h k hk => by have h2 := (h.2 k).1 hk; subst h2; exact blk_lt h.1) (fun vs W W' own h _ hm => ⟨(hm bo ((h.2 bo).2 rfl)).trans h.1, h.2⟩)
  (fun W vs own o Ao co hI hM hB ho hC hco => by
   refine (sym_visit wp W l0 o A0 Ao c0 co bp bo (ssum l0 vs) HR0p.out HC0.out hC hco (by rw [ho]; exact K2.out.symm) (by omega) k3 HSM.out ((hB.block bp LP.out).trans Bbp.out) hI.1 hB LB.out).mono ?_
   rintro e W' ⟨he, h1, h2, h3⟩
   exact ⟨he, own, ⟨by rw [ssum_snoc]; exact h1, hI.2⟩, h2, h3.mono (fun k hk => (hI.2 k).2 hk), fun k hk => .inl hk⟩)
  [] (by have := K5.out; simpa using this) w3 (fun k => k = bo) ⟨BO.out, fun k => Iff.rfl⟩ KO.out)
 unfold Stop
 go_wp2_with fail
 rw [EB.out, EW.out]
 refine HORD.out.mono ?_
 rintro e w5 ⟨rfl, own5, hi5, hb5, hk5, ho5⟩
 have B5 := Aside0.mk hi5.1
 have HB5 := Aside0.mk hb5
 clear hi5 hb5 hk5 ho5
 obtain ⟨z, hz⟩ : ∃ z, ssum l0 ([] ++ exts l1 l1.length 0 []) = z := ⟨_, rfl⟩
 have cb5 : w5.cell? ⟨bo, 0, none⟩ = some (.int .i64 z) := by rw [← hz]; exact (blk_cell B5.out 0).trans rfl
 have HZ := Aside0.mk (show r = z from by rw [← HH.out, ← hz, List.nil_append])
 clear hz
 go_wp2
 go_ret
 exact ⟨by rw [HZ.out]; rfl, below_then Kbp.out Kbp.out.size HB5.out⟩


def impl_SymmetricSum.f (k : Nat) (l0 : List Int) (l1 : List Int) : Option (Int × Bool) := (impl_arePowers.f k l0).bind fun t822 => (if t822 = true then ((impl_areArguments.f k l1).bind fun t823 => (if t823 = true then (if (l0.length : Int) = (l1.length : Int) then ((impl_symmetricSum.f l0 l1).bind fun t824 => (some (t824, true))) else (some (0, false))) else (some (0, false)))) else (some (0, false)))
theorem impl_SymmetricSum.mono : ∀ a0 a1 k, LeO (impl_SymmetricSum.f k a0 a1) (impl_SymmetricSum.f (k + 1) a0 a1) := by
 intro a0 a1 k
 unfold impl_SymmetricSum.f
 repeat' first
   | (with_reducible exact impl_areArguments.mono _ _)
   | (with_reducible exact impl_arePowers.mono _ _)
   | (with_reducible exact LeO.refl _)
   | (with_reducible exact LeO.none _)
   | (with_reducible refine LeO.ite ?_ ?_)
   | (with_reducible refine LeO.bind ?_ (fun _ => ?_))
   | exact impl_areArguments.mono _ _
   | exact impl_arePowers.mono _ _
   | exact LeO.none _
   | refine LeO.ite ?_ ?_
   | refine LeO.bind ?_ (fun _ => ?_)
set_option maxHeartbeats 8000000 in
set_option maxRecDepth 100000 in
theorem impl_SymmetricSum.calls (k : Nat) (A0 : Option Addr) (c0 : Nat) (l0 : List Int) (A1 : Option Addr) (c1 : Nat) (l1 : List Int) (r1 : Int) (r2 : Bool) (w : World) (hr0 : Kd.C (Kd.int .i64) w A0 l0.length l0) (hc0 : l0.length ≤ c0) (hr1 : Kd.C (Kd.int .i64) w A1 l1.length l1) (hc1 : l1.length ≤ c1) (h : impl_SymmetricSum.f k l0 l1 = some (r1, r2)) :
  Calls Try.prog 58 #[.slice A0 l0.length c0, .slice A1 l1.length c1] w fun e w' => e = .returned (.tuple #[.int .i64 r1, .bool r2]) ∧ Below w.heap.size w w' := by
 have HR0 := Aside0.mk hr0
 have HC0 := Aside0.mk hc0
 clear hr0 hc0
 have HR1 := Aside0.mk hr1
 have HC1 := Aside0.mk hc1
 clear hr1 hc1
 have HB := Aside0.mk (Below.refl w.heap.size w)
 have H : ((impl_arePowers.f k l0).bind fun t822 => (if t822 = true then ((impl_areArguments.f k l1).bind fun t823 => (if t823 = true then (if (l0.length : Int) = (l1.length : Int) then ((impl_symmetricSum.f l0 l1).bind fun t824 => (some (t824, true))) else (some (0, false))) else (some (0, false)))) else (some (0, false)))) = some (r1, r2) := h
 clear h
 replace H := Option.bind_eq_some_iff.mp H
 obtain ⟨t822, A30, H⟩ := H
 replace H : (if t822 = true then ((impl_areArguments.f k l1).bind fun t823 => (if t823 = true then (if (l0.length : Int) = (l1.length : Int) then ((impl_symmetricSum.f l0 l1).bind fun t824 => (some (t824, true))) else (some (0, false))) else (some (0, false)))) else (some (0, false))) = some (r1, r2) := H
 have A3 := Aside0.mk A30
 clear A30
 by_cases c4 : t822 = true
 ·subst c4
  have H1 : ((impl_areArguments.f k l1).bind fun t823 => (if t823 = true then (if (l0.length : Int) = (l1.length : Int) then ((impl_symmetricSum.f l0 l1).bind fun t824 => (some (t824, true))) else (some (0, false))) else (some (0, false)))) = some (r1, r2) := by rw [if_pos rfl] at H; exact H
  clear H
  have H := H1
  clear H1
  replace H := Option.bind_eq_some_iff.mp H
  obtain ⟨t823, A50, H⟩ := H
  replace H : (if t823 = true then (if (l0.length : Int) = (l1.length : Int) then ((impl_symmetricSum.f l0 l1).bind fun t824 => (some (t824, true))) else (some (0, false))) else (some (0, false))) = some (r1, r2) := H
  have A5 := Aside0.mk A50
  clear A50
  by_cases c6 : t823 = true
  ·subst c6
   have H1 : (if (l0.length : Int) = (l1.length : Int) then ((impl_symmetricSum.f l0 l1).bind fun t824 => (some (t824, true))) else (some (0, false))) = some (r1, r2) := by rw [if_pos rfl] at H; exact H
   clear H
   have H := H1
   clear H1
   by_cases c7 : (l0.length : Int) = (l1.length : Int)
   ·rw [if_pos c7] at H
    have c7b0 : ((l0.length : Int) == (l1.length : Int)) = true := beq_iff_eq.mpr c7
    have c7b1 : ((l0.length : Int) != (l1.length : Int)) = false := bne_eq_false_iff_eq.mpr c7
    have c7b2 : (l0.length == l1.length) = true := by first | simpa using c7 | (simp at c7 ⊢; omega)
    clear c7
    replace H := Option.bind_eq_some_iff.mp H
    obtain ⟨t824, A80, H⟩ := H
    replace H : (some (t824, true)) = some (r1, r2) := H
    have A8 := Aside0.mk A80
    clear A80
    simp only [Option.some.injEq, Prod.mk.injEq] at H
    obtain ⟨rfl, rfl⟩ := H
    go_enter Try.func58, Try.ntmps58
    go_wp2_with (first | ((with_reducible refine gate_callee (f := 132) rfl ?_); refine goesL_ (some 7) rfl rfl Try.func132 (by kernel_rfl) rfl #[.slice A0 l0.length c0] rfl (by (try simp only [List.map_toArray, List.map_cons, List.map_nil]); first | done | rfl | (simp only [List.length_drop, List.length_take]; rfl)) ?_; (with_reducible refine (impl_arePowers.calls k _ _ l0 true _ ?side1 ?side2 A3.out).mono ?_); (case side1 => repeat (first | exact HR0.out | (with_reducible refine Kd.C_alloc ?_ _) | (with_reducible refine Kd.C_drewN ?_ _) | (with_reducible refine Kd.C_drew ?_))); (case side2 => exact HC0.out); rintro e w' ⟨rfl, ⟨nd, rfl⟩⟩; refine ⟨_, rfl, ?_⟩) | (go_at_call 133; (with_reducible refine (impl_areArguments.calls k _ _ l1 true _ ?side1 ?side2 A5.out).mono ?_); (case side1 => repeat (first | exact HR1.out | (with_reducible refine Kd.C_alloc ?_ _) | (with_reducible refine Kd.C_drewN ?_ _) | (with_reducible refine Kd.C_drew ?_))); (case side2 => exact HC1.out); rintro e w' ⟨rfl, ⟨nd, rfl⟩⟩) | ((with_reducible refine gate_callee (f := 151) rfl ?_); refine goesL_ (some 23) rfl rfl Try.func151 (by kernel_rfl) rfl #[.slice A0 l0.length c0, .slice A1 l1.length c1] rfl (by (try simp only [List.map_toArray, List.map_cons, List.map_nil]); first | done | rfl | (simp only [List.length_drop, List.length_take]; rfl)) ?_; (with_reducible refine (impl_symmetricSum.calls _ _ l0 _ _ l1 t824 _ ?side1 ?side2 ?side3 ?side4 A8.out).mono ?_); (case side1 => repeat (first | exact HR0.out | (with_reducible refine Kd.C_alloc ?_ _) | (with_reducible refine Kd.C_drewN ?_ _) | (with_reducible refine Kd.C_drew ?_))); (case side2 => exact HC0.out); (case side3 => repeat (first | exact HR1.out | (with_reducible refine Kd.C_alloc ?_ _) | (with_reducible refine Kd.C_drewN ?_ _) | (with_reducible refine Kd.C_drew ?_))); (case side4 => exact HC1.out); rintro e w9 ⟨rfl, hb⟩; refine ⟨_, rfl, ?_⟩; have n0_ := Aside0.mk (below_step (by repeat (first | (with_reducible first | exact HB.out | apply below_alloc | apply pw_below_drewN | apply below_drew1) | exact HB.out)) hb); clear HB; have HB := n0_; clear n0_; (try clear hb); (try clear hb2); (try clear hk); (try clear hi)))
    go_ret2
    exact ⟨by first | rfl | (simp [errW_none, errW_some] <;> rfl) | (simp [*, errW_none, errW_some] <;> rfl), by repeat (first | (with_reducible first | exact HB.out | apply below_alloc | apply pw_below_drewN | apply below_drew1) | exact HB.out)⟩
   ·rw [if_neg c7] at H
    have c7b0 : ((l0.length : Int) == (l1.length : Int)) = false := beq_eq_false_iff_ne.mpr c7
    have c7b1 : ((l0.length : Int) != (l1.length : Int)) = true := bne_iff_ne.mpr c7
    have c7b2 : (l0.length == l1.length) = false := by first | simpa using c7 | (simp at c7 ⊢; omega)
    simp only [Option.some.injEq, Prod.mk.injEq] at H
    obtain ⟨rfl, rfl⟩ := H
    go_enter Try.func58, Try.ntmps58
    go_wp2_with (first | ((with_reducible refine gate_callee (f := 132) rfl ?_); refine goesL_ (some 7) rfl rfl Try.func132 (by kernel_rfl) rfl #[.slice A0 l0.length c0] rfl (by (try simp only [List.map_toArray, List.map_cons, List.map_nil]); first | done | rfl | (simp only [List.length_drop, List.length_take]; rfl)) ?_; (with_reducible refine (impl_arePowers.calls k _ _ l0 true _ ?side1 ?side2 A3.out).mono ?_); (case side1 => repeat (first | exact HR0.out | (with_reducible refine Kd.C_alloc ?_ _) | (with_reducible refine Kd.C_drewN ?_ _) | (with_reducible refine Kd.C_drew ?_))); (case side2 => exact HC0.out); rintro e w' ⟨rfl, ⟨nd, rfl⟩⟩; refine ⟨_, rfl, ?_⟩) | (go_at_call 133; (with_reducible refine (impl_areArguments.calls k _ _ l1 true _ ?side1 ?side2 A5.out).mono ?_); (case side1 => repeat (first | exact HR1.out | (with_reducible refine Kd.C_alloc ?_ _) | (with_reducible refine Kd.C_drewN ?_ _) | (with_reducible refine Kd.C_drew ?_))); (case side2 => exact HC1.out); rintro e w' ⟨rfl, ⟨nd, rfl⟩⟩))
    go_ret2
    exact ⟨by first | rfl | (simp [errW_none, errW_some] <;> rfl) | (simp [*, errW_none, errW_some] <;> rfl), by repeat (first | (with_reducible first | exact HB.out | apply below_alloc | apply pw_below_drewN | apply below_drew1) | exact HB.out)⟩
  ·replace c6 := Bool.eq_false_iff.mpr c6
   subst c6
   have H1 : (some (0, false)) = some (r1, r2) := by rw [if_neg (show ¬ (false = true) by decide)] at H; exact H
   clear H
   have H := H1
   clear H1
   simp only [Option.some.injEq, Prod.mk.injEq] at H
   obtain ⟨rfl, rfl⟩ := H
   go_enter Try.func58, Try.ntmps58
   go_wp2_with (first | ((with_reducible refine gate_callee (f := 132) rfl ?_); refine goesL_ (some 7) rfl rfl Try.func132 (by kernel_rfl) rfl #[.slice A0 l0.length c0] rfl (by (try simp only [List.map_toArray, List.map_cons, List.map_nil]); first | done | rfl | (simp only [List.length_drop, List.length_take]; rfl)) ?_; (with_reducible refine (impl_arePowers.calls k _ _ l0 true _ ?side1 ?side2 A3.out).mono ?_); (case side1 => repeat (first | exact HR0.out | (with_reducible refine Kd.C_alloc ?_ _) | (with_reducible refine Kd.C_drewN ?_ _) | (with_reducible refine Kd.C_drew ?_))); (case side2 => exact HC0.out); rintro e w' ⟨rfl, ⟨nd, rfl⟩⟩; refine ⟨_, rfl, ?_⟩) | (go_at_call 133; (with_reducible refine (impl_areArguments.calls k _ _ l1 false _ ?side1 ?side2 A5.out).mono ?_); (case side1 => repeat (first | exact HR1.out | (with_reducible refine Kd.C_alloc ?_ _) | (with_reducible refine Kd.C_drewN ?_ _) | (with_reducible refine Kd.C_drew ?_))); (case side2 => exact HC1.out); rintro e w' ⟨rfl, ⟨nd, rfl⟩⟩))
   go_ret2
   exact ⟨by first | rfl | (simp [errW_none, errW_some] <;> rfl) | (simp [*, errW_none, errW_some] <;> rfl), by repeat (first | (with_reducible first | exact HB.out | apply below_alloc | apply pw_below_drewN | apply below_drew1) | exact HB.out)⟩
 ·replace c4 := Bool.eq_false_iff.mpr c4
  subst c4
  have H1 : (some (0, false)) = some (r1, r2) := by rw [if_neg (show ¬ (false = true) by decide)] at H; exact H
  clear H
  have H := H1
  clear H1
  simp only [Option.some.injEq, Prod.mk.injEq] at H
  obtain ⟨rfl, rfl⟩ := H
  go_enter Try.func58, Try.ntmps58
  go_wp2_with (first | ((with_reducible refine gate_callee (f := 132) rfl ?_); refine goesL_ (some 7) rfl rfl Try.func132 (by kernel_rfl) rfl #[.slice A0 l0.length c0] rfl (by (try simp only [List.map_toArray, List.map_cons, List.map_nil]); first | done | rfl | (simp only [List.length_drop, List.length_take]; rfl)) ?_; (with_reducible refine (impl_arePowers.calls k _ _ l0 false _ ?side1 ?side2 A3.out).mono ?_); (case side1 => repeat (first | exact HR0.out | (with_reducible refine Kd.C_alloc ?_ _) | (with_reducible refine Kd.C_drewN ?_ _) | (with_reducible refine Kd.C_drew ?_))); (case side2 => exact HC0.out); rintro e w' ⟨rfl, ⟨nd, rfl⟩⟩; refine ⟨_, rfl, ?_⟩))
  go_ret2
  exact ⟨by first | rfl | (simp [errW_none, errW_some] <;> rfl) | (simp [*, errW_none, errW_some] <;> rfl), by repeat (first | (with_reducible first | exact HB.out | apply below_alloc | apply pw_below_drewN | apply below_drew1) | exact HB.out)⟩


mutual
def laws_FnGiftsInSums.j0 : Nat → List Int → List Int → List Int → Bool → Bool → Int → Int → Int → Option (Bool)
 | 0, _, _, _, _, _, _, _, _ => none
 | k + 1, x5, x7, x8, x11, x51, x836000, x836001, x836002 => if x51 = true then (some false) else (if x11 = true then ((impl_DoGift.f k x5 x836000 x836001 x836002).bind fun bt845 => ((impl_SymmetricSum.f k x5 x7).bind fun bt849 => ((impl_SymmetricSum.f k bt845.1 x7).bind fun bt851 => (laws_FnGiftsInSums.l0 k x8 bt845.2 bt849.1 bt849.2 bt851.1 bt851.2 x8 (x8.length : Int) 0)))) else (some true))
def laws_FnGiftsInSums.l0 : Nat → List Int → Bool → Int → Bool → Int → Bool → List Int → Int → Int → Option (Bool)
 | 0, _, _, _, _, _, _, _, _, _ => none
 | k + 1, x8, x13, x14, x15, x16, x17, x72, x73, x74 => if x74 < x73 then (if 0 ≤ x74 then (if x74 < (x72.length : Int) then (if (rd x72 x74) < 0 then (some false) else (laws_FnGiftsInSums.l0 k x8 x13 x14 x15 x16 x17 x72 x73 (wrap64 (x74 + 1)))) else (none)) else (none)) else (if x13 = true then (if x15 = true then (if x17 = true then ((laws_pSum.f k x8).bind fun t854 => (some (t854 == (wrap64 (2 * (wrap64 (x14 - x16))))))) else (some false)) else (some false)) else (some false))
end
def laws_FnGiftsInSums.f (k : Nat) (l0 : List Int) (l1 : List Int) : Option (Bool) := (laws_big.f l0 l1).bind fun t825 => (if t825 = true then (some true) else ((spec_DrawGiftTerms.f k l0).bind fun bt826 => ((impl_GiftTerms.f k bt826.1 bt826.2.1 bt826.2.2.1 bt826.2.2.2.1 bt826.2.2.2.2).bind fun bt836 => ((spec_GiftTerms.f k bt826.1 bt826.2.1 bt826.2.2.1 bt826.2.2.2.1 bt826.2.2.2.2).bind fun bt840 => (if (bt836.2 != bt840.2) = true then (laws_FnGiftsInSums.j0 k bt826.1 bt826.2.2.2.2 bt836.1 bt840.2 true bt826.2.1 bt826.2.2.1 bt826.2.2.2.1) else ((laws_pSame.f k bt836.1 bt840.1).bind fun t844 => (laws_FnGiftsInSums.j0 k bt826.1 bt826.2.2.2.2 bt836.1 bt840.2 (!t844) bt826.2.1 bt826.2.2.1 bt826.2.2.2.1)))))))
theorem laws_FnGiftsInSums.mono_l : ∀ k, (∀ y0 y1 y2 y3 y4 y5 y6 y7, LeO (laws_FnGiftsInSums.j0 k y0 y1 y2 y3 y4 y5 y6 y7) (laws_FnGiftsInSums.j0 (k + 1) y0 y1 y2 y3 y4 y5 y6 y7)) ∧ (∀ y0 y1 y2 y3 y4 y5 y6 y7 y8, LeO (laws_FnGiftsInSums.l0 k y0 y1 y2 y3 y4 y5 y6 y7 y8) (laws_FnGiftsInSums.l0 (k + 1) y0 y1 y2 y3 y4 y5 y6 y7 y8))
 | 0 => ⟨fun _ _ _ _ _ _ _ _ r h => by simp [laws_FnGiftsInSums.j0] at h, fun _ _ _ _ _ _ _ _ _ r h => by simp [laws_FnGiftsInSums.l0] at h⟩
 | k + 1 => by
  obtain ⟨ih0, ih1⟩ := laws_FnGiftsInSums.mono_l k
  refine ⟨?_, ?_⟩
  ·intro y0 y1 y2 y3 y4 y5 y6 y7
   unfold laws_FnGiftsInSums.j0
   repeat' first
   | (with_reducible exact ih0 _ _ _ _ _ _ _ _)
   | (with_reducible exact ih1 _ _ _ _ _ _ _ _ _)
   | (with_reducible exact impl_DoGift.mono _ _ _ _ _)
   | (with_reducible exact impl_GiftTerms.mono _ _ _ _ _ _)
   | (with_reducible exact impl_SymmetricSum.mono _ _ _)
   | (with_reducible exact laws_pSame.mono _ _ _)
   | (with_reducible exact laws_pSum.mono _ _)
   | (with_reducible exact spec_DrawGiftTerms.mono _ _)
   | (with_reducible exact spec_GiftTerms.mono _ _ _ _ _ _)
   | (with_reducible exact LeO.refl _)
   | (with_reducible exact LeO.none _)
   | (with_reducible refine LeO.ite ?_ ?_)
   | (with_reducible refine LeO.bind ?_ (fun _ => ?_))
   | exact ih0 _ _ _ _ _ _ _ _
   | exact ih1 _ _ _ _ _ _ _ _ _
   | exact impl_DoGift.mono _ _ _ _ _
   | exact impl_GiftTerms.mono _ _ _ _ _ _
   | exact impl_SymmetricSum.mono _ _ _
   | exact laws_pSame.mono _ _ _
   | exact laws_pSum.mono _ _
   | exact spec_DrawGiftTerms.mono _ _
   | exact spec_GiftTerms.mono _ _ _ _ _ _
   | exact LeO.none _
   | refine LeO.ite ?_ ?_
   | refine LeO.bind ?_ (fun _ => ?_)
  ·intro y0 y1 y2 y3 y4 y5 y6 y7 y8
   unfold laws_FnGiftsInSums.l0
   repeat' first
   | (with_reducible exact ih0 _ _ _ _ _ _ _ _)
   | (with_reducible exact ih1 _ _ _ _ _ _ _ _ _)
   | (with_reducible exact impl_DoGift.mono _ _ _ _ _)
   | (with_reducible exact impl_GiftTerms.mono _ _ _ _ _ _)
   | (with_reducible exact impl_SymmetricSum.mono _ _ _)
   | (with_reducible exact laws_pSame.mono _ _ _)
   | (with_reducible exact laws_pSum.mono _ _)
   | (with_reducible exact spec_DrawGiftTerms.mono _ _)
   | (with_reducible exact spec_GiftTerms.mono _ _ _ _ _ _)
   | (with_reducible exact LeO.refl _)
   | (with_reducible exact LeO.none _)
   | (with_reducible refine LeO.ite ?_ ?_)
   | (with_reducible refine LeO.bind ?_ (fun _ => ?_))
   | exact ih0 _ _ _ _ _ _ _ _
   | exact ih1 _ _ _ _ _ _ _ _ _
   | exact impl_DoGift.mono _ _ _ _ _
   | exact impl_GiftTerms.mono _ _ _ _ _ _
   | exact impl_SymmetricSum.mono _ _ _
   | exact laws_pSame.mono _ _ _
   | exact laws_pSum.mono _ _
   | exact spec_DrawGiftTerms.mono _ _
   | exact spec_GiftTerms.mono _ _ _ _ _ _
   | exact LeO.none _
   | refine LeO.ite ?_ ?_
   | refine LeO.bind ?_ (fun _ => ?_)
theorem laws_FnGiftsInSums.mono : ∀ a0 a1 k, LeO (laws_FnGiftsInSums.f k a0 a1) (laws_FnGiftsInSums.f (k + 1) a0 a1) := by
 intro a0 a1 k
 obtain ⟨ih0, ih1⟩ := laws_FnGiftsInSums.mono_l k
 unfold laws_FnGiftsInSums.f
 repeat' first
   | (with_reducible exact ih0 _ _ _ _ _ _ _ _)
   | (with_reducible exact ih1 _ _ _ _ _ _ _ _ _)
   | (with_reducible exact impl_DoGift.mono _ _ _ _ _)
   | (with_reducible exact impl_GiftTerms.mono _ _ _ _ _ _)
   | (with_reducible exact impl_SymmetricSum.mono _ _ _)
   | (with_reducible exact laws_pSame.mono _ _ _)
   | (with_reducible exact laws_pSum.mono _ _)
   | (with_reducible exact spec_DrawGiftTerms.mono _ _)
   | (with_reducible exact spec_GiftTerms.mono _ _ _ _ _ _)
   | (with_reducible exact LeO.refl _)
   | (with_reducible exact LeO.none _)
   | (with_reducible refine LeO.ite ?_ ?_)
   | (with_reducible refine LeO.bind ?_ (fun _ => ?_))
   | exact ih0 _ _ _ _ _ _ _ _
   | exact ih1 _ _ _ _ _ _ _ _ _
   | exact impl_DoGift.mono _ _ _ _ _
   | exact impl_GiftTerms.mono _ _ _ _ _ _
   | exact impl_SymmetricSum.mono _ _ _
   | exact laws_pSame.mono _ _ _
   | exact laws_pSum.mono _ _
   | exact spec_DrawGiftTerms.mono _ _
   | exact spec_GiftTerms.mono _ _ _ _ _ _
   | exact LeO.none _
   | refine LeO.ite ?_ ?_
   | refine LeO.bind ?_ (fun _ => ?_)
set_option maxHeartbeats 8000000 in
set_option maxRecDepth 100000 in
theorem laws_FnGiftsInSums.calls (k : Nat) (A0 : Option Addr) (c0 : Nat) (l0 : List Int) (A1 : Option Addr) (c1 : Nat) (l1 : List Int) (r : Bool) (w : World) (hr0 : Kd.C (Kd.int .u8) w A0 l0.length l0) (hc0 : l0.length ≤ c0) (hr1 : Kd.C (Kd.int .u8) w A1 l1.length l1) (hc1 : l1.length ≤ c1) (h : laws_FnGiftsInSums.f k l0 l1 = some r) :
  Calls Try.prog 9 #[.slice A0 l0.length c0, .slice A1 l1.length c1] w fun e w' => e = .returned (.bool r) ∧ Below w.heap.size w w' := by
 have hu52 := Try.underlying52
 have HR0 := Aside0.mk hr0
 have HC0 := Aside0.mk hc0
 clear hr0 hc0
 have HR1 := Aside0.mk hr1
 have HC1 := Aside0.mk hc1
 clear hr1 hc1
 have HB := Aside0.mk (Below.refl w.heap.size w)
 have H : ((laws_big.f l0 l1).bind fun t825 => (if t825 = true then (some true) else ((spec_DrawGiftTerms.f k l0).bind fun bt826 => ((impl_GiftTerms.f k bt826.1 bt826.2.1 bt826.2.2.1 bt826.2.2.2.1 bt826.2.2.2.2).bind fun bt836 => ((spec_GiftTerms.f k bt826.1 bt826.2.1 bt826.2.2.1 bt826.2.2.2.1 bt826.2.2.2.2).bind fun bt840 => (if (bt836.2 != bt840.2) = true then (laws_FnGiftsInSums.j0 k bt826.1 bt826.2.2.2.2 bt836.1 bt840.2 true bt826.2.1 bt826.2.2.1 bt826.2.2.2.1) else ((laws_pSame.f k bt836.1 bt840.1).bind fun t844 => (laws_FnGiftsInSums.j0 k bt826.1 bt826.2.2.2.2 bt836.1 bt840.2 (!t844) bt826.2.1 bt826.2.2.1 bt826.2.2.2.1)))))))) = some r := h
 clear h
 replace H := Option.bind_eq_some_iff.mp H
 obtain ⟨t825, A30, H⟩ := H
 replace H : (if t825 = true then (some true) else ((spec_DrawGiftTerms.f k l0).bind fun bt826 => ((impl_GiftTerms.f k bt826.1 bt826.2.1 bt826.2.2.1 bt826.2.2.2.1 bt826.2.2.2.2).bind fun bt836 => ((spec_GiftTerms.f k bt826.1 bt826.2.1 bt826.2.2.1 bt826.2.2.2.1 bt826.2.2.2.2).bind fun bt840 => (if (bt836.2 != bt840.2) = true then (laws_FnGiftsInSums.j0 k bt826.1 bt826.2.2.2.2 bt836.1 bt840.2 true bt826.2.1 bt826.2.2.1 bt826.2.2.2.1) else ((laws_pSame.f k bt836.1 bt840.1).bind fun t844 => (laws_FnGiftsInSums.j0 k bt826.1 bt826.2.2.2.2 bt836.1 bt840.2 (!t844) bt826.2.1 bt826.2.2.1 bt826.2.2.2.1))))))) = some r := H
 have A3 := Aside0.mk A30
 clear A30
 by_cases c4 : t825 = true
 ·subst c4
  have H1 : (some true) = some r := by rw [if_pos rfl] at H; exact H
  clear H
  have H := H1
  clear H1
  obtain rfl := Option.some.inj H
  go_enter Try.func9, Try.ntmps9
  go_wp2_with (first | ((with_reducible refine gate_callee (f := 18) rfl ?_); refine goesL_ (some 22) rfl rfl Try.func18 (by kernel_rfl) rfl #[.slice A0 l0.length c0, .slice A1 l1.length c1] rfl (by (try simp only [List.map_toArray, List.map_cons, List.map_nil]); first | done | rfl | (simp only [List.length_drop, List.length_take]; rfl)) ?_; (with_reducible refine (laws_big.calls _ _ l0 _ _ l1 true _ ?side1 ?side2 ?side3 ?side4 A3.out).mono ?_); (case side1 => repeat (first | exact HR0.out | (with_reducible refine Kd.C_alloc ?_ _) | (with_reducible refine Kd.C_drewN ?_ _) | (with_reducible refine Kd.C_drew ?_))); (case side2 => exact HC0.out); (case side3 => repeat (first | exact HR1.out | (with_reducible refine Kd.C_alloc ?_ _) | (with_reducible refine Kd.C_drewN ?_ _) | (with_reducible refine Kd.C_drew ?_))); (case side4 => exact HC1.out); rintro e w' ⟨rfl, ⟨nd, rfl⟩⟩; refine ⟨_, rfl, ?_⟩))
  go_ret
  exact ⟨by first | rfl | (simp [errW_none, errW_some] <;> rfl) | (simp [*, errW_none, errW_some] <;> rfl), by repeat (first | (with_reducible first | exact HB.out | apply below_alloc | apply pw_below_drewN | apply below_drew1) | exact HB.out)⟩
 ·replace c4 := Bool.eq_false_iff.mpr c4
  subst c4
  have H1 : ((spec_DrawGiftTerms.f k l0).bind fun bt826 => ((impl_GiftTerms.f k bt826.1 bt826.2.1 bt826.2.2.1 bt826.2.2.2.1 bt826.2.2.2.2).bind fun bt836 => ((spec_GiftTerms.f k bt826.1 bt826.2.1 bt826.2.2.1 bt826.2.2.2.1 bt826.2.2.2.2).bind fun bt840 => (if (bt836.2 != bt840.2) = true then (laws_FnGiftsInSums.j0 k bt826.1 bt826.2.2.2.2 bt836.1 bt840.2 true bt826.2.1 bt826.2.2.1 bt826.2.2.2.1) else ((laws_pSame.f k bt836.1 bt840.1).bind fun t844 => (laws_FnGiftsInSums.j0 k bt826.1 bt826.2.2.2.2 bt836.1 bt840.2 (!t844) bt826.2.1 bt826.2.2.1 bt826.2.2.2.1)))))) = some r := by rw [if_neg (show ¬ (false = true) by decide)] at H; exact H
  clear H
  have H := H1
  clear H1
  replace H := Option.bind_eq_some_iff.mp H
  obtain ⟨⟨t826, t829, t830, t831, t832⟩, A50, H⟩ := H
  replace H : ((impl_GiftTerms.f k t826 t829 t830 t831 t832).bind fun bt836 => ((spec_GiftTerms.f k t826 t829 t830 t831 t832).bind fun bt840 => (if (bt836.2 != bt840.2) = true then (laws_FnGiftsInSums.j0 k t826 t832 bt836.1 bt840.2 true t829 t830 t831) else ((laws_pSame.f k bt836.1 bt840.1).bind fun t844 => (laws_FnGiftsInSums.j0 k t826 t832 bt836.1 bt840.2 (!t844) t829 t830 t831))))) = some r := H
  have A5 := Aside0.mk A50
  clear A50
  replace H := Option.bind_eq_some_iff.mp H
  obtain ⟨⟨t836, t839⟩, A60, H⟩ := H
  replace H : ((spec_GiftTerms.f k t826 t829 t830 t831 t832).bind fun bt840 => (if (t839 != bt840.2) = true then (laws_FnGiftsInSums.j0 k t826 t832 t836 bt840.2 true t829 t830 t831) else ((laws_pSame.f k t836 bt840.1).bind fun t844 => (laws_FnGiftsInSums.j0 k t826 t832 t836 bt840.2 (!t844) t829 t830 t831)))) = some r := H
  have A6 := Aside0.mk A60
  clear A60
  replace H := Option.bind_eq_some_iff.mp H
  obtain ⟨⟨t840, t843⟩, A70, H⟩ := H
  replace H : (if (t839 != t843) = true then (laws_FnGiftsInSums.j0 k t826 t832 t836 t843 true t829 t830 t831) else ((laws_pSame.f k t836 t840).bind fun t844 => (laws_FnGiftsInSums.j0 k t826 t832 t836 t843 (!t844) t829 t830 t831))) = some r := H
  have A7 := Aside0.mk A70
  clear A70
  have HC8 := Aside0.mk H
  clear H
  go_enter Try.func9, Try.ntmps9
  go_upto_region 6 with (first | ((with_reducible refine gate_callee (f := 18) rfl ?_); refine goesL_ (some 22) rfl rfl Try.func18 (by kernel_rfl) rfl #[.slice A0 l0.length c0, .slice A1 l1.length c1] rfl (by (try simp only [List.map_toArray, List.map_cons, List.map_nil]); first | done | rfl | (simp only [List.length_drop, List.length_take]; rfl)) ?_; (with_reducible refine (laws_big.calls _ _ l0 _ _ l1 false _ ?side1 ?side2 ?side3 ?side4 A3.out).mono ?_); (case side1 => repeat (first | exact HR0.out | (with_reducible refine Kd.C_alloc ?_ _) | (with_reducible refine Kd.C_drewN ?_ _) | (with_reducible refine Kd.C_drew ?_))); (case side2 => exact HC0.out); (case side3 => repeat (first | exact HR1.out | (with_reducible refine Kd.C_alloc ?_ _) | (with_reducible refine Kd.C_drewN ?_ _) | (with_reducible refine Kd.C_drew ?_))); (case side4 => exact HC1.out); rintro e w' ⟨rfl, ⟨nd, rfl⟩⟩; refine ⟨_, rfl, ?_⟩) | ((with_reducible refine gate_callee (f := 56) rfl ?_); refine goesL_ (some 25) rfl rfl Try.func56 (by kernel_rfl) rfl #[.slice A0 l0.length c0] rfl (by (try simp only [List.map_toArray, List.map_cons, List.map_nil]); first | done | rfl | (simp only [List.length_drop, List.length_take]; rfl)) ?_; (with_reducible refine (spec_DrawGiftTerms.calls k _ _ l0 t826 t829 t830 t831 t832 _ ?side1 ?side2 A5.out).mono ?_); (case side1 => repeat (first | exact HR0.out | (with_reducible refine Kd.C_alloc ?_ _) | (with_reducible refine Kd.C_drewN ?_ _) | (with_reducible refine Kd.C_drew ?_))); (case side2 => exact HC0.out); rintro e w9 ⟨v827, v833, rfl, ho0, ho1, hb⟩; refine ⟨_, rfl, ?_⟩; have n0_ := Aside0.mk (Kd.R_lower ho0 (below_size (by repeat (first | (with_reducible first | exact HB.out | apply below_alloc | apply pw_below_drewN | apply below_drew1) | exact HB.out)))); have n1_ := Aside0.mk (Kd.R_lower ho1 (below_size (by repeat (first | (with_reducible first | exact HB.out | apply below_alloc | apply pw_below_drewN | apply below_drew1) | exact HB.out)))); have n2_ := Aside0.mk (below_step (by repeat (first | (with_reducible first | exact HB.out | apply below_alloc | apply pw_below_drewN | apply below_drew1) | exact HB.out)) hb); clear HB; have HO828 := n0_; have HO834 := n1_; have HB := n2_; clear n0_ n1_ n2_; (try clear hb); (try clear hb2); (try clear hk); (try clear hi); (try clear ho0); (try clear ho1)) | ((with_reducible refine gate_dst (N := 6) rfl ?_); refine box_event ?hg (N := 6) ?hd (cs := #[.int .i64 0, .int .i64 0, .int .i64 0]) (t := 52) ?hr ?_; (case hd => rfl); (case hg => rfl); (case hr => first | (go_simp; done) | (go_simp; rfl)); intro gb835 hg w10 hbox hb; have n0_ := Aside0.mk (Kd.R_below (by (with_reducible repeat (first | apply Kd.R_alloc | apply Kd.R_drewN | apply Kd.R_drew)); exact HO828.out) hb); have n1_ := Aside0.mk (Kd.R_below (by (with_reducible repeat (first | apply Kd.R_alloc | apply Kd.R_drewN | apply Kd.R_drew)); exact HO834.out) hb); have n2_ := Aside0.mk (below_step (by repeat (first | (with_reducible first | exact HB.out | apply below_alloc | apply pw_below_drewN | apply below_drew1) | exact HB.out)) hb); have n3_ := Aside0.mk (hbox); have n4_ := Aside0.mk ((by rw [hg]; exact (below_size (by repeat (first | (with_reducible first | exact HB.out | apply below_alloc | apply pw_below_drewN | apply below_drew1) | exact HB.out))) : w.heap.size ≤ gb835)); have n5_ := Aside0.mk ((by rw [hg]; exact (below_size (by repeat (first | (with_reducible first | exact HB.out | apply below_alloc | apply pw_below_drewN | apply below_drew1) | exact HB.out))) : w.heap.size ≤ gb835)); clear HO828; clear HO834; clear HB; have HO828 := n0_; have HO834 := n1_; have HB := n2_; have BK835 := n3_; have GW835 := n4_; have GE835 := n5_; clear n0_ n1_ n2_ n3_ n4_ n5_; clear hb hbox hg; have hcz11_0 : w10.cell? ⟨gb835, 0, none⟩ = some (.int .i64 0) := (blk_cell BK835.out 0).trans rfl; have hcz11_1 : w10.cell? ⟨gb835, 1, none⟩ = some (.int .i64 0) := (blk_cell BK835.out 1).trans rfl; have hcz11_2 : w10.cell? ⟨gb835, 2, none⟩ = some (.int .i64 0) := (blk_cell BK835.out 2).trans rfl; have hfz11_0 := blk_frozen BK835.out 0; have hfz11_1 := blk_frozen BK835.out 1; have hfz11_2 := blk_frozen BK835.out 2; obtain ⟨Ao12, co12, eo12⟩ := Kd.R_slice HO828.out; subst eo12; obtain ⟨Ao13, co13, eo13⟩ := Kd.R_slice HO834.out; subst eo13) | ((with_reducible refine gate_callee (f := 44) rfl ?_); refine goesL_ (some 33) rfl rfl Try.func44 (by kernel_rfl) rfl #[.slice Ao12 t826.length co12, .agg #[.int .i64 t829, .int .i64 t830, .int .i64 t831], .slice Ao13 t832.length co13] rfl (by (try simp only [List.map_toArray, List.map_cons, List.map_nil]); first | done | rfl | (simp only [List.length_drop, List.length_take]; rfl)) ?_; (with_reducible refine (impl_GiftTerms.calls k _ _ t826 t829 t830 t831 _ _ t832 t836 t839 _ ?side1 ?side2 ?side3 ?side4 A6.out).mono ?_); (case side1 => refine (Kd.R_reads' (e := 3) (base := w.heap.size) (ok := fun k_ => some k_ ≠ (.slice Ao13 t832.length co13 : Value).ownBlock) (n := t826.length) (c := co12) ?_).2.2; exact (by (with_reducible repeat (first | apply Kd.R_alloc | apply Kd.R_drewN | apply Kd.R_drew)); exact (Kd.R_mono (Kd.R_far (p := ⟨gb835, 2, none⟩) (Kd.R_far (p := ⟨gb835, 1, none⟩) (Kd.R_far (p := ⟨gb835, 0, none⟩) (Kd.R_types HO828.out BK835.out (by decide)) (fun _ hk => hk.2) (.int .i64 t829)) (fun _ hk => hk.2) (.int .i64 t830)) (fun _ hk => hk.2) (.int .i64 t831)) (fun _ h_ => h_.1)))); (case side2 => exact (Kd.R_reads' HO828.out).2.1); (case side3 => refine (Kd.R_reads' (e := 3) (base := w.heap.size) (ok := fun k_ => some k_ ≠ (.slice Ao12 t826.length co12 : Value).ownBlock) (n := t832.length) (c := co13) ?_).2.2; exact (by (with_reducible repeat (first | apply Kd.R_alloc | apply Kd.R_drewN | apply Kd.R_drew)); exact (Kd.R_mono (Kd.R_far (p := ⟨gb835, 2, none⟩) (Kd.R_far (p := ⟨gb835, 1, none⟩) (Kd.R_far (p := ⟨gb835, 0, none⟩) (Kd.R_types HO834.out BK835.out (by decide)) (fun _ hk => hk.2) (.int .i64 t829)) (fun _ hk => hk.2) (.int .i64 t830)) (fun _ hk => hk.2) (.int .i64 t831)) (fun _ h_ => h_.1)))); (case side4 => exact (Kd.R_reads' HO834.out).2.1); rintro e w14 ⟨v837, rfl, ho0, hb⟩; refine ⟨_, rfl, ?_⟩; have n0_ := Aside0.mk (Kd.R_elder' (by (with_reducible repeat (first | apply Kd.R_alloc | apply Kd.R_drewN | apply Kd.R_drew)); exact (Kd.R_mono (Kd.R_far (p := ⟨gb835, 2, none⟩) (Kd.R_far (p := ⟨gb835, 1, none⟩) (Kd.R_far (p := ⟨gb835, 0, none⟩) (Kd.R_types HO828.out BK835.out (by decide)) (fun _ hk => hk.2) (.int .i64 t829)) (fun _ hk => hk.2) (.int .i64 t830)) (fun _ hk => hk.2) (.int .i64 t831)) (fun _ h_ => h_.1))) (Kd.R_base ho0) hb); have n1_ := Aside0.mk (Kd.R_elder' (by (with_reducible repeat (first | apply Kd.R_alloc | apply Kd.R_drewN | apply Kd.R_drew)); exact (Kd.R_mono (Kd.R_far (p := ⟨gb835, 2, none⟩) (Kd.R_far (p := ⟨gb835, 1, none⟩) (Kd.R_far (p := ⟨gb835, 0, none⟩) (Kd.R_types HO834.out BK835.out (by decide)) (fun _ hk => hk.2) (.int .i64 t829)) (fun _ hk => hk.2) (.int .i64 t830)) (fun _ hk => hk.2) (.int .i64 t831)) (fun _ h_ => h_.1))) (Kd.R_base ho0) hb); have n2_ := Aside0.mk (Kd.R_lower (Kd.R_new' (Kd.R_new' ho0 (Kd.R_lt (by (with_reducible repeat (first | apply Kd.R_alloc | apply Kd.R_drewN | apply Kd.R_drew)); exact (Kd.R_mono (Kd.R_far (p := ⟨gb835, 2, none⟩) (Kd.R_far (p := ⟨gb835, 1, none⟩) (Kd.R_far (p := ⟨gb835, 0, none⟩) (Kd.R_types HO828.out BK835.out (by decide)) (fun _ hk => hk.2) (.int .i64 t829)) (fun _ hk => hk.2) (.int .i64 t830)) (fun _ hk => hk.2) (.int .i64 t831)) (fun _ h_ => h_.1))))) (Kd.R_lt (by (with_reducible repeat (first | apply Kd.R_alloc | apply Kd.R_drewN | apply Kd.R_drew)); exact (Kd.R_mono (Kd.R_far (p := ⟨gb835, 2, none⟩) (Kd.R_far (p := ⟨gb835, 1, none⟩) (Kd.R_far (p := ⟨gb835, 0, none⟩) (Kd.R_types HO834.out BK835.out (by decide)) (fun _ hk => hk.2) (.int .i64 t829)) (fun _ hk => hk.2) (.int .i64 t830)) (fun _ hk => hk.2) (.int .i64 t831)) (fun _ h_ => h_.1))))) (below_size (by repeat (first | (with_reducible first | exact HB.out | apply below_alloc | apply pw_below_drewN | apply below_drew1 | refine below_set ?_ GE835.out) | exact HB.out)))); have n3_ := Aside0.mk (blk_below (g := gb835) (o := .cells #[.int .i64 t829, .int .i64 t830, .int .i64 t831] 52 (0, 0)) (by (with_reducible repeat (first | refine blk_drewN ?_ _ | refine blk_drew ?_ | refine blk_alloc ?_ _)); refine blk_put (cs := #[.int .i64 t829, .int .i64 t830, .int .i64 0]) ?_ 2 _ rfl; (with_reducible repeat (first | refine blk_drewN ?_ _ | refine blk_drew ?_ | refine blk_alloc ?_ _)); refine blk_put (cs := #[.int .i64 t829, .int .i64 0, .int .i64 0]) ?_ 1 _ rfl; (with_reducible repeat (first | refine blk_drewN ?_ _ | refine blk_drew ?_ | refine blk_alloc ?_ _)); refine blk_put (cs := #[.int .i64 0, .int .i64 0, .int .i64 0]) ?_ 0 _ rfl; (with_reducible repeat (first | refine blk_drewN ?_ _ | refine blk_drew ?_ | refine blk_alloc ?_ _)); exact BK835.out) hb); have n4_ := Aside0.mk (below_step (by repeat (first | (with_reducible first | exact HB.out | apply below_alloc | apply pw_below_drewN | apply below_drew1 | refine below_set ?_ GE835.out) | exact HB.out)) hb); clear HO828; clear HO834; clear BK835; clear HB; have HO828 := n0_; have HO834 := n1_; have HO838 := n2_; have BK835 := n3_; have HB := n4_; clear n0_ n1_ n2_ n3_ n4_; (try clear hb); (try clear hb2); (try clear hk); (try clear hi); (try clear ho0); have hcz15_0 : w14.cell? ⟨gb835, 0, none⟩ = some (.int .i64 t829) := (blk_cell BK835.out 0).trans rfl; have hcz15_1 : w14.cell? ⟨gb835, 1, none⟩ = some (.int .i64 t830) := (blk_cell BK835.out 1).trans rfl; have hcz15_2 : w14.cell? ⟨gb835, 2, none⟩ = some (.int .i64 t831) := (blk_cell BK835.out 2).trans rfl; have hfz15_0 := blk_frozen BK835.out 0; have hfz15_1 := blk_frozen BK835.out 1; have hfz15_2 := blk_frozen BK835.out 2) | ((with_reducible refine gate_callee (f := 41) rfl ?_); refine goesL_ (some 40) rfl rfl Try.func41 (by kernel_rfl) rfl #[.slice Ao12 t826.length co12, .agg #[.int .i64 t829, .int .i64 t830, .int .i64 t831], .slice Ao13 t832.length co13] rfl (by (try simp only [List.map_toArray, List.map_cons, List.map_nil]); first | done | rfl | (simp only [List.length_drop, List.length_take]; rfl)) ?_; (with_reducible refine (spec_GiftTerms.calls k _ _ t826 t829 t830 t831 _ _ t832 t840 t843 _ ?side1 ?side2 ?side3 ?side4 A7.out).mono ?_); (case side1 => repeat (first | exact (Kd.R_reads' HO828.out).2.2 | (with_reducible refine Kd.C_alloc ?_ _) | (with_reducible refine Kd.C_drewN ?_ _) | (with_reducible refine Kd.C_drew ?_))); (case side2 => exact (Kd.R_reads' HO828.out).2.1); (case side3 => repeat (first | exact (Kd.R_reads' HO834.out).2.2 | (with_reducible refine Kd.C_alloc ?_ _) | (with_reducible refine Kd.C_drewN ?_ _) | (with_reducible refine Kd.C_drew ?_))); (case side4 => exact (Kd.R_reads' HO834.out).2.1); rintro e w16 ⟨v841, rfl, ho0, hb⟩; refine ⟨_, rfl, ?_⟩; have n0_ := Aside0.mk (Kd.R_elder' (by (with_reducible repeat (first | apply Kd.R_alloc | apply Kd.R_drewN | apply Kd.R_drew)); exact HO828.out) (Kd.R_base ho0) hb); have n1_ := Aside0.mk (Kd.R_elder' (by (with_reducible repeat (first | apply Kd.R_alloc | apply Kd.R_drewN | apply Kd.R_drew)); exact HO834.out) (Kd.R_base ho0) hb); have n2_ := Aside0.mk (Kd.R_elder' (by (with_reducible repeat (first | apply Kd.R_alloc | apply Kd.R_drewN | apply Kd.R_drew)); exact HO838.out) (Kd.R_base ho0) hb); have n3_ := Aside0.mk (Kd.R_lower (Kd.R_new' (Kd.R_new' (Kd.R_new' ho0 (Kd.R_lt (by (with_reducible repeat (first | apply Kd.R_alloc | apply Kd.R_drewN | apply Kd.R_drew)); exact HO828.out))) (Kd.R_lt (by (with_reducible repeat (first | apply Kd.R_alloc | apply Kd.R_drewN | apply Kd.R_drew)); exact HO834.out))) (Kd.R_lt (by (with_reducible repeat (first | apply Kd.R_alloc | apply Kd.R_drewN | apply Kd.R_drew)); exact HO838.out))) (below_size (by repeat (first | (with_reducible first | exact HB.out | apply below_alloc | apply pw_below_drewN | apply below_drew1 | refine below_set ?_ GE835.out) | exact HB.out)))); have n4_ := Aside0.mk (blk_below (g := gb835) (o := .cells #[.int .i64 t829, .int .i64 t830, .int .i64 t831] 52 (0, 0)) (by (with_reducible repeat (first | refine blk_drewN ?_ _ | refine blk_drew ?_ | refine blk_alloc ?_ _)); exact BK835.out) hb); have n5_ := Aside0.mk (below_step (by repeat (first | (with_reducible first | exact HB.out | apply below_alloc | apply pw_below_drewN | apply below_drew1 | refine below_set ?_ GE835.out) | exact HB.out)) hb); clear HO828; clear HO834; clear HO838; clear BK835; clear HB; have HO828 := n0_; have HO834 := n1_; have HO838 := n2_; have HO842 := n3_; have BK835 := n4_; have HB := n5_; clear n0_ n1_ n2_ n3_ n4_ n5_; (try clear hb); (try clear hb2); (try clear hk); (try clear hi); (try clear ho0)))
  (try simp only [Act.put, List.setIfInBounds_toArray, List.set_cons_zero, List.set_cons_succ])
  go_cut [51] (fun v51 wc => ∃ (kq : Nat) (x51_7 : Bool), v51 = .bool x51_7 ∧ Aside0 (laws_FnGiftsInSums.j0 kq t826 t832 t836 t843 x51_7 t829 t830 t831 = some r) ∧ Aside0 (kq ≤ k) ∧ Aside0 (Kd.R (Kd.int .i64) 3 wc w.heap.size (fun k_ => some k_ ≠ ((.slice Ao13 t832.length co13) : Value).ownBlock ∧ some k_ ≠ (v837 : Value).ownBlock) (.slice Ao12 t826.length co12) t826) ∧ Aside0 (Kd.R (Kd.int .i64) 3 wc w.heap.size (fun k_ => some k_ ≠ ((.slice Ao12 t826.length co12) : Value).ownBlock ∧ some k_ ≠ (v837 : Value).ownBlock) (.slice Ao13 t832.length co13) t832) ∧ Aside0 (Kd.R (Kd.int .i64) 3 wc w.heap.size (fun k_ => some k_ ≠ ((.slice Ao12 t826.length co12) : Value).ownBlock ∧ some k_ ≠ ((.slice Ao13 t832.length co13) : Value).ownBlock) v837 t836) ∧ Aside0 (wc.heap[gb835]? = some (.cells #[.int .i64 t829, .int .i64 t830, .int .i64 t831] 52 (0, 0))) ∧ Aside0 (Below w.heap.size w wc))
  case first =>
   have H := HC8.out
   clear HC8
   by_cases c17 : (t839 != t843) = true
   ·rw [if_pos c17] at H
    have c17b0 : (t839 != t843) = true := c17
    (try (have c17b1 : decide (t839 = t843) = false := by simpa using c17))
    (try (have c17b2 : (t839 == t843) = false := by simpa using c17))
    (try (have c17b3 : ¬ (t839 = t843) := by simpa using c17))
    clear c17
    (first | rw [c17b0] | (simp only [i64_w, i32_w]; rw [c17b0]) | skip)
    have H' := Aside0.mk H
    clear H
    go_wp2
    go_meet
    case rel => exact ⟨_, (true), (by first | rfl | (simp; done) | (simp [*]; done)), H', ⟨by first | omega | exact Nat.le_refl _⟩, ⟨by (with_reducible repeat (first | apply Kd.R_alloc | apply Kd.R_drewN | apply Kd.R_drew)); exact Kd.R_mono HO828.out (fun _ hk => ⟨hk.1.1, hk.1.2⟩)⟩, ⟨by (with_reducible repeat (first | apply Kd.R_alloc | apply Kd.R_drewN | apply Kd.R_drew)); exact Kd.R_mono HO834.out (fun _ hk => ⟨hk.1.1, hk.1.2⟩)⟩, ⟨by (with_reducible repeat (first | apply Kd.R_alloc | apply Kd.R_drewN | apply Kd.R_drew)); exact Kd.R_mono HO838.out (fun _ hk => ⟨hk.1.1.2, hk.1.2⟩)⟩, ⟨by (with_reducible repeat (first | refine blk_drewN ?_ _ | refine blk_drew ?_ | refine blk_alloc ?_ _)); exact BK835.out⟩, ⟨by repeat (first | (with_reducible first | exact HB.out | apply below_alloc | apply pw_below_drewN | apply below_drew1 | refine below_set ?_ GE835.out) | exact HB.out)⟩⟩
   ·rw [if_neg c17] at H
    have c17b0 : (t839 != t843) = false := by simpa using c17
    (try (have c17b1 : decide (t839 = t843) = true := by simpa using c17))
    (try (have c17b2 : (t839 == t843) = true := by simpa using c17))
    clear c17
    (first | rw [c17b0] | (simp only [i64_w, i32_w]; rw [c17b0]) | skip)
    replace H := Option.bind_eq_some_iff.mp H
    obtain ⟨t844, A180, H⟩ := H
    replace H : (laws_FnGiftsInSums.j0 k t826 t832 t836 t843 (!t844) t829 t830 t831) = some r := H
    have A18 := Aside0.mk A180
    clear A180
    have H' := Aside0.mk H
    clear H
    obtain ⟨Ao19, co19, eo19⟩ := Kd.R_slice HO838.out
    subst eo19
    obtain ⟨Ao20, co20, eo20⟩ := Kd.R_slice HO842.out
    subst eo20
    go_wp2_with (first | (go_at_call 33; (with_reducible refine (laws_pSame.calls k _ _ t836 _ _ t840 t844 _ ?side1 ?side2 ?side3 ?side4 A18.out).mono ?_); (case side1 => repeat (first | exact (Kd.R_reads' HO838.out).2.2 | (with_reducible refine Kd.C_alloc ?_ _) | (with_reducible refine Kd.C_drewN ?_ _) | (with_reducible refine Kd.C_drew ?_))); (case side2 => exact (Kd.R_reads' HO838.out).2.1); (case side3 => repeat (first | exact (Kd.R_reads' HO842.out).2.2 | (with_reducible refine Kd.C_alloc ?_ _) | (with_reducible refine Kd.C_drewN ?_ _) | (with_reducible refine Kd.C_drew ?_))); (case side4 => exact (Kd.R_reads' HO842.out).2.1); rintro e w' ⟨rfl, ⟨nd, rfl⟩⟩))
    go_meet
    case rel => exact ⟨_, (!t844), (by first | rfl | (simp; done) | (simp [*]; done)), H', ⟨by first | omega | exact Nat.le_refl _⟩, ⟨by (with_reducible repeat (first | apply Kd.R_alloc | apply Kd.R_drewN | apply Kd.R_drew)); exact Kd.R_mono HO828.out (fun _ hk => ⟨hk.1.1, hk.1.2⟩)⟩, ⟨by (with_reducible repeat (first | apply Kd.R_alloc | apply Kd.R_drewN | apply Kd.R_drew)); exact Kd.R_mono HO834.out (fun _ hk => ⟨hk.1.1, hk.1.2⟩)⟩, ⟨by (with_reducible repeat (first | apply Kd.R_alloc | apply Kd.R_drewN | apply Kd.R_drew)); exact Kd.R_mono HO838.out (fun _ hk => ⟨hk.1.1.2, hk.1.2⟩)⟩, ⟨by (with_reducible repeat (first | refine blk_drewN ?_ _ | refine blk_drew ?_ | refine blk_alloc ?_ _)); exact BK835.out⟩, ⟨by repeat (first | (with_reducible first | exact HB.out | apply below_alloc | apply pw_below_drewN | apply below_drew1 | refine below_set ?_ GE835.out) | exact HB.out)⟩⟩
  case rest =>
   clear HC8
   try clear c1
   try clear p2
   try clear c4
   try clear c5
   try clear c9
   try clear c17
   try clear c17b0
   try clear c17b1
   try clear c17b2
   try clear c18
   try clear hcz11_0
   try clear hcz11_1
   try clear hcz11_2
   try clear hcz15_0
   try clear hcz15_1
   try clear hcz15_2
   try clear hfz11_0
   try clear hfz11_1
   try clear hfz11_2
   try clear hfz15_0
   try clear hfz15_1
   try clear hfz15_2
   obtain ⟨kq, x51_7, rfl, HA, HJ7, HO_5, HO_7, HO_8, BK835, HB⟩ := hcut
   cases kq with
   | zero => exact absurd HA.out (by simp [laws_FnGiftsInSums.j0])
   | succ kj7 =>
    have H := HA.out
    clear HA
    simp only [laws_FnGiftsInSums.j0] at H
    by_cases c21 : x51_7 = true
    ·subst c21
     have H1 : (some false) = some r := by rw [if_pos rfl] at H; exact H
     clear H
     have H := H1
     clear H1
     obtain rfl := Option.some.inj H
     go_wp2
     go_ret
     exact ⟨by first | rfl | (simp [errW_none, errW_some] <;> rfl) | (simp [*, errW_none, errW_some] <;> rfl), by repeat (first | (with_reducible first | exact HB.out | apply below_alloc | apply pw_below_drewN | apply below_drew1 | refine below_set ?_ GE835.out) | exact HB.out)⟩
    ·replace c21 := Bool.eq_false_iff.mpr c21
     subst c21
     have H1 : (if t843 = true then ((impl_DoGift.f kj7 t826 t829 t830 t831).bind fun bt845 => ((impl_SymmetricSum.f kj7 t826 t832).bind fun bt849 => ((impl_SymmetricSum.f kj7 bt845.1 t832).bind fun bt851 => (laws_FnGiftsInSums.l0 kj7 t836 bt845.2 bt849.1 bt849.2 bt851.1 bt851.2 t836 (t836.length : Int) 0)))) else (some true)) = some r := by rw [if_neg (show ¬ (false = true) by decide)] at H; exact H
     clear H
     have H := H1
     clear H1
     by_cases c22 : t843 = true
     ·subst c22
      have H1 : ((impl_DoGift.f kj7 t826 t829 t830 t831).bind fun bt845 => ((impl_SymmetricSum.f kj7 t826 t832).bind fun bt849 => ((impl_SymmetricSum.f kj7 bt845.1 t832).bind fun bt851 => (laws_FnGiftsInSums.l0 kj7 t836 bt845.2 bt849.1 bt849.2 bt851.1 bt851.2 t836 (t836.length : Int) 0)))) = some r := by rw [if_pos rfl] at H; exact H
      clear H
      have H := H1
      clear H1
      replace H := Option.bind_eq_some_iff.mp H
      obtain ⟨⟨t845, t848⟩, A230, H⟩ := H
      replace H : ((impl_SymmetricSum.f kj7 t826 t832).bind fun bt849 => ((impl_SymmetricSum.f kj7 t845 t832).bind fun bt851 => (laws_FnGiftsInSums.l0 kj7 t836 t848 bt849.1 bt849.2 bt851.1 bt851.2 t836 (t836.length : Int) 0))) = some r := H
      have A23 := Aside0.mk A230
      clear A230
      replace H := Option.bind_eq_some_iff.mp H
      obtain ⟨⟨t849, t850⟩, A240, H⟩ := H
      replace H : ((impl_SymmetricSum.f kj7 t845 t832).bind fun bt851 => (laws_FnGiftsInSums.l0 kj7 t836 t848 t849 t850 bt851.1 bt851.2 t836 (t836.length : Int) 0)) = some r := H
      have A24 := Aside0.mk A240
      clear A240
      replace H := Option.bind_eq_some_iff.mp H
      obtain ⟨⟨t851, t852⟩, A250, H⟩ := H
      replace H : (laws_FnGiftsInSums.l0 kj7 t836 t848 t849 t850 t851 t852 t836 (t836.length : Int) 0) = some r := H
      have A25 := Aside0.mk A250
      clear A250
      have H' := Aside0.mk H
      clear H
      have hcz26_0 : wc.cell? ⟨gb835, 0, none⟩ = some (.int .i64 t829) := (blk_cell BK835.out 0).trans rfl
      have hcz26_1 : wc.cell? ⟨gb835, 1, none⟩ = some (.int .i64 t830) := (blk_cell BK835.out 1).trans rfl
      have hcz26_2 : wc.cell? ⟨gb835, 2, none⟩ = some (.int .i64 t831) := (blk_cell BK835.out 2).trans rfl
      have hfz26_0 := blk_frozen BK835.out 0
      have hfz26_1 := blk_frozen BK835.out 1
      have hfz26_2 := blk_frozen BK835.out 2
      go_wp2_with (first | ((with_reducible refine gate_callee (f := 57) rfl ?_); refine goesL_ (some 57) rfl rfl Try.func57 (by kernel_rfl) rfl #[.slice Ao12 t826.length co12, .agg #[.int .i64 t829, .int .i64 t830, .int .i64 t831]] rfl (by (try simp only [List.map_toArray, List.map_cons, List.map_nil]); first | done | rfl | (simp only [List.length_drop, List.length_take]; rfl)) ?_; (with_reducible refine (impl_DoGift.calls kj7 _ _ t826 t829 t830 t831 t845 t848 _ ?side1 ?side2 A23.out).mono ?_); (case side1 => repeat (first | exact (Kd.R_reads' HO_5.out).2.2 | (with_reducible refine Kd.C_alloc ?_ _) | (with_reducible refine Kd.C_drewN ?_ _) | (with_reducible refine Kd.C_drew ?_))); (case side2 => exact (Kd.R_reads' HO_5.out).2.1); rintro e w27 ⟨v846, rfl, ho0, hb⟩; refine ⟨_, rfl, ?_⟩; have n0_ := Aside0.mk (Kd.R_elder' (by (with_reducible repeat (first | apply Kd.R_alloc | apply Kd.R_drewN | apply Kd.R_drew)); exact HO_5.out) (Kd.R_base ho0) hb); have n1_ := Aside0.mk (Kd.R_elder' (by (with_reducible repeat (first | apply Kd.R_alloc | apply Kd.R_drewN | apply Kd.R_drew)); exact HO_7.out) (Kd.R_base ho0) hb); have n2_ := Aside0.mk (Kd.R_elder' (by (with_reducible repeat (first | apply Kd.R_alloc | apply Kd.R_drewN | apply Kd.R_drew)); exact HO_8.out) (Kd.R_base ho0) hb); have n3_ := Aside0.mk (Kd.R_lower (Kd.R_new' (Kd.R_new' (Kd.R_new' ho0 (Kd.R_lt (by (with_reducible repeat (first | apply Kd.R_alloc | apply Kd.R_drewN | apply Kd.R_drew)); exact HO_5.out))) (Kd.R_lt (by (with_reducible repeat (first | apply Kd.R_alloc | apply Kd.R_drewN | apply Kd.R_drew)); exact HO_7.out))) (Kd.R_lt (by (with_reducible repeat (first | apply Kd.R_alloc | apply Kd.R_drewN | apply Kd.R_drew)); exact HO_8.out))) (below_size (by repeat (first | (with_reducible first | exact HB.out | apply below_alloc | apply pw_below_drewN | apply below_drew1 | refine below_set ?_ GE835.out) | exact HB.out)))); have n4_ := Aside0.mk (blk_below (g := gb835) (o := .cells #[.int .i64 t829, .int .i64 t830, .int .i64 t831] 52 (0, 0)) (by (with_reducible repeat (first | refine blk_drewN ?_ _ | refine blk_drew ?_ | refine blk_alloc ?_ _)); exact BK835.out) hb); have n5_ := Aside0.mk (below_step (by repeat (first | (with_reducible first | exact HB.out | apply below_alloc | apply pw_below_drewN | apply below_drew1 | refine below_set ?_ GE835.out) | exact HB.out)) hb); clear HO_5; clear HO_7; clear HO_8; clear BK835; clear HB; have HO_5 := n0_; have HO_7 := n1_; have HO_8 := n2_; have HO847 := n3_; have BK835 := n4_; have HB := n5_; clear n0_ n1_ n2_ n3_ n4_ n5_; (try clear hb); (try clear hb2); (try clear hk); (try clear hi); (try clear ho0)) | ((with_reducible refine gate_callee (f := 58) rfl ?_); refine goesL_ (some 63) rfl rfl Try.func58 (by kernel_rfl) rfl #[.slice Ao12 t826.length co12, .slice Ao13 t832.length co13] rfl (by (try simp only [List.map_toArray, List.map_cons, List.map_nil]); first | done | rfl | (simp only [List.length_drop, List.length_take]; rfl)) ?_; (with_reducible refine (impl_SymmetricSum.calls kj7 _ _ t826 _ _ t832 t849 t850 _ ?side1 ?side2 ?side3 ?side4 A24.out).mono ?_); (case side1 => repeat (first | exact (Kd.R_reads' HO_5.out).2.2 | (with_reducible refine Kd.C_alloc ?_ _) | (with_reducible refine Kd.C_drewN ?_ _) | (with_reducible refine Kd.C_drew ?_))); (case side2 => exact (Kd.R_reads' HO_5.out).2.1); (case side3 => repeat (first | exact (Kd.R_reads' HO_7.out).2.2 | (with_reducible refine Kd.C_alloc ?_ _) | (with_reducible refine Kd.C_drewN ?_ _) | (with_reducible refine Kd.C_drew ?_))); (case side4 => exact (Kd.R_reads' HO_7.out).2.1); rintro e w28 ⟨rfl, hb⟩; refine ⟨_, rfl, ?_⟩; have n0_ := Aside0.mk (Kd.R_below (by (with_reducible repeat (first | apply Kd.R_alloc | apply Kd.R_drewN | apply Kd.R_drew)); exact HO_5.out) hb); have n1_ := Aside0.mk (Kd.R_below (by (with_reducible repeat (first | apply Kd.R_alloc | apply Kd.R_drewN | apply Kd.R_drew)); exact HO_7.out) hb); have n2_ := Aside0.mk (Kd.R_below (by (with_reducible repeat (first | apply Kd.R_alloc | apply Kd.R_drewN | apply Kd.R_drew)); exact HO_8.out) hb); have n3_ := Aside0.mk (Kd.R_below (by (with_reducible repeat (first | apply Kd.R_alloc | apply Kd.R_drewN | apply Kd.R_drew)); exact HO847.out) hb); have n4_ := Aside0.mk (blk_below (g := gb835) (o := .cells #[.int .i64 t829, .int .i64 t830, .int .i64 t831] 52 (0, 0)) (by (with_reducible repeat (first | refine blk_drewN ?_ _ | refine blk_drew ?_ | refine blk_alloc ?_ _)); exact BK835.out) hb); have n5_ := Aside0.mk (below_step (by repeat (first | (with_reducible first | exact HB.out | apply below_alloc | apply pw_below_drewN | apply below_drew1 | refine below_set ?_ GE835.out) | exact HB.out)) hb); clear HO_5; clear HO_7; clear HO_8; clear HO847; clear BK835; clear HB; have HO_5 := n0_; have HO_7 := n1_; have HO_8 := n2_; have HO847 := n3_; have BK835 := n4_; have HB := n5_; clear n0_ n1_ n2_ n3_ n4_ n5_; (try clear hb); (try clear hb2); (try clear hk); (try clear hi); obtain ⟨Ao29, co29, eo29⟩ := Kd.R_slice HO847.out; subst eo29) | ((with_reducible refine gate_callee (f := 58) rfl ?_); refine goesL_ (some 69) rfl rfl Try.func58 (by kernel_rfl) rfl #[.slice Ao29 t845.length co29, .slice Ao13 t832.length co13] rfl (by (try simp only [List.map_toArray, List.map_cons, List.map_nil]); first | done | rfl | (simp only [List.length_drop, List.length_take]; rfl)) ?_; (with_reducible refine (impl_SymmetricSum.calls kj7 _ _ t845 _ _ t832 t851 t852 _ ?side1 ?side2 ?side3 ?side4 A25.out).mono ?_); (case side1 => repeat (first | exact (Kd.R_reads' HO847.out).2.2 | (with_reducible refine Kd.C_alloc ?_ _) | (with_reducible refine Kd.C_drewN ?_ _) | (with_reducible refine Kd.C_drew ?_))); (case side2 => exact (Kd.R_reads' HO847.out).2.1); (case side3 => repeat (first | exact (Kd.R_reads' HO_7.out).2.2 | (with_reducible refine Kd.C_alloc ?_ _) | (with_reducible refine Kd.C_drewN ?_ _) | (with_reducible refine Kd.C_drew ?_))); (case side4 => exact (Kd.R_reads' HO_7.out).2.1); rintro e w30 ⟨rfl, hb⟩; refine ⟨_, rfl, ?_⟩; have n0_ := Aside0.mk (Kd.R_below (by (with_reducible repeat (first | apply Kd.R_alloc | apply Kd.R_drewN | apply Kd.R_drew)); exact HO_5.out) hb); have n1_ := Aside0.mk (Kd.R_below (by (with_reducible repeat (first | apply Kd.R_alloc | apply Kd.R_drewN | apply Kd.R_drew)); exact HO_7.out) hb); have n2_ := Aside0.mk (Kd.R_below (by (with_reducible repeat (first | apply Kd.R_alloc | apply Kd.R_drewN | apply Kd.R_drew)); exact HO_8.out) hb); have n3_ := Aside0.mk (Kd.R_below (by (with_reducible repeat (first | apply Kd.R_alloc | apply Kd.R_drewN | apply Kd.R_drew)); exact HO847.out) hb); have n4_ := Aside0.mk (blk_below (g := gb835) (o := .cells #[.int .i64 t829, .int .i64 t830, .int .i64 t831] 52 (0, 0)) (by (with_reducible repeat (first | refine blk_drewN ?_ _ | refine blk_drew ?_ | refine blk_alloc ?_ _)); exact BK835.out) hb); have n5_ := Aside0.mk (below_step (by repeat (first | (with_reducible first | exact HB.out | apply below_alloc | apply pw_below_drewN | apply below_drew1 | refine below_set ?_ GE835.out) | exact HB.out)) hb); clear HO_5; clear HO_7; clear HO_8; clear HO847; clear BK835; clear HB; have HO_5 := n0_; have HO_7 := n1_; have HO_8 := n2_; have HO847 := n3_; have BK835 := n4_; have HB := n5_; clear n0_ n1_ n2_ n3_ n4_ n5_; (try clear hb); (try clear hb2); (try clear hk); (try clear hi); obtain ⟨Ao31, co31, eo31⟩ := Kd.R_slice HO_8.out; subst eo31))
      go_loopg [74] kj7 (fun kq v74 w' => ∃ (x74_2 : Int), v74 = .int .i64 x74_2 ∧ Aside0 (laws_FnGiftsInSums.l0 kq t836 t848 t849 t850 t851 t852 t836 (t836.length : Int) x74_2 = some r) ∧ Aside0 (kq ≤ kj7) ∧ Aside0 (Kd.R (Kd.int .i64) 3 w' w.heap.size (fun _ => True) (.slice Ao31 t836.length co31) t836) ∧ Aside0 (Kd.R (Kd.int .i64) 3 w' w.heap.size (fun _ => True) (.slice Ao31 t836.length co31) t836) ∧ Aside0 (w'.heap[gb835]? = some (.cells #[.int .i64 t829, .int .i64 t830, .int .i64 t831] 52 (0, 0))) ∧ Aside0 (Below w.heap.size w w'))
      case atStart => exact ⟨(0), (by first | rfl | (simp; done) | (simp [*]; done)), H', ⟨Nat.le_refl _⟩, ⟨by (with_reducible repeat (first | apply Kd.R_alloc | apply Kd.R_drewN | apply Kd.R_drew)); exact Kd.R_mono HO_8.out (fun _ hk => trivial)⟩, ⟨by (with_reducible repeat (first | apply Kd.R_alloc | apply Kd.R_drewN | apply Kd.R_drew)); exact Kd.R_mono HO_8.out (fun _ hk => trivial)⟩, ⟨by (with_reducible repeat (first | refine blk_drewN ?_ _ | refine blk_drew ?_ | refine blk_alloc ?_ _)); exact BK835.out⟩, ⟨by repeat (first | (with_reducible first | exact HB.out | apply below_alloc | apply pw_below_drewN | apply below_drew1 | refine below_set ?_ GE835.out) | exact HB.out)⟩⟩
      case round =>
       clear H'
       try clear c1
       try clear c2
       try clear p2
       try clear c4
       try clear c5
       try clear c9
       try clear c17
       try clear c17b0
       try clear c17b1
       try clear c17b2
       try clear c18
       try clear c21
       try clear c22
       try clear hcz11_0
       try clear hcz11_1
       try clear hcz11_2
       try clear hcz15_0
       try clear hcz15_1
       try clear hcz15_2
       try clear hcz26_0
       try clear hcz26_1
       try clear hcz26_2
       try clear hfz11_0
       try clear hfz11_1
       try clear hfz11_2
       try clear hfz15_0
       try clear hfz15_1
       try clear hfz15_2
       try clear hfz26_0
       try clear hfz26_1
       try clear hfz26_2
       try clear p2
       obtain ⟨x74_2, rfl, HA, HK2, HO_8, HO_72, BK835, HB⟩ := hrel
       cases gk with
       | zero => exact absurd HA.out (by simp [laws_FnGiftsInSums.l0])
       | succ k2 =>
        have H := HA.out
        clear HA
        simp only [laws_FnGiftsInSums.l0] at H
        by_cases c32 : x74_2 < (t836.length : Int)
        ·rw [if_pos c32] at H
         have c32b0 : decide (x74_2 < (t836.length : Int)) = true := decide_eq_true c32
         clear c32
         by_cases c33 : 0 ≤ x74_2
         ·rw [if_pos c33] at H
          have c33b0 : decide (0 ≤ x74_2) = true := decide_eq_true c33
          clear c33
          by_cases c34 : x74_2 < (t836.length : Int)
          ·rw [if_pos c34] at H
           have c34b0 : decide (x74_2 < (t836.length : Int)) = true := decide_eq_true c34
           clear c34
           by_cases c35 : (rd t836 x74_2) < 0
           ·rw [if_pos c35] at H
            have c35b0 : decide ((rd t836 x74_2) < 0) = true := decide_eq_true c35
            clear c35
            obtain rfl := Option.some.inj H
            have p853 : 0 ≤ (x74_2 : Int) := of_decide_eq_true (by first | (with_reducible assumption) | assumption)
            have q853 : x74_2 < (t836.length : Int) := of_decide_eq_true (by first | (with_reducible assumption) | assumption)
            obtain ⟨ad853, e853, hx853_0⟩ := Kd.at_int (Kd.R_reads' HO_72.out).2.2 x74_2 p853 q853
            cases e853
            replace p853 := eq_true p853
            replace q853 := eq_true q853
            go_wp2
            go_ret
            exact ⟨by first | rfl | (simp [errW_none, errW_some] <;> rfl) | (simp [*, errW_none, errW_some] <;> rfl), by repeat (first | (with_reducible first | exact HB.out | apply below_alloc | apply pw_below_drewN | apply below_drew1 | refine below_set ?_ GE835.out) | exact HB.out)⟩
           ·rw [if_neg c35] at H
            have c35b0 : decide ((rd t836 x74_2) < 0) = false := decide_eq_false c35
            clear c35
            have H' := Aside0.mk H
            clear H
            have p853 : 0 ≤ (x74_2 : Int) := of_decide_eq_true (by first | (with_reducible assumption) | assumption)
            have q853 : x74_2 < (t836.length : Int) := of_decide_eq_true (by first | (with_reducible assumption) | assumption)
            obtain ⟨ad853, e853, hx853_0⟩ := Kd.at_int (Kd.R_reads' HO_72.out).2.2 x74_2 p853 q853
            cases e853
            replace p853 := eq_true p853
            replace q853 := eq_true q853
            go_wp2
            go_roundg k2
            case measure => have := HJ7.out; have := HK2.out; omega
            case rel => exact ⟨(wrap64 (x74_2 + 1)), (by first | rfl | (simp; done) | (simp [*]; done)), H', ⟨by have := HJ7.out; have := HK2.out; omega⟩, ⟨by (with_reducible repeat (first | apply Kd.R_alloc | apply Kd.R_drewN | apply Kd.R_drew)); exact HO_8.out⟩, ⟨by (with_reducible repeat (first | apply Kd.R_alloc | apply Kd.R_drewN | apply Kd.R_drew)); exact HO_72.out⟩, ⟨by (with_reducible repeat (first | refine blk_drewN ?_ _ | refine blk_drew ?_ | refine blk_alloc ?_ _)); exact BK835.out⟩, ⟨by repeat (first | (with_reducible first | exact HB.out | apply below_alloc | apply pw_below_drewN | apply below_drew1 | refine below_set ?_ GE835.out) | exact HB.out)⟩⟩
          ·rw [if_neg c34] at H
           exact absurd H (by simp)
         ·rw [if_neg c33] at H
          exact absurd H (by simp)
        ·rw [if_neg c32] at H
         have c32b0 : decide (x74_2 < (t836.length : Int)) = false := decide_eq_false c32
         clear c32
         by_cases c36 : t848 = true
         ·subst c36
          have H1 : (if t850 = true then (if t852 = true then ((laws_pSum.f k2 t836).bind fun t854 => (some (t854 == (wrap64 (2 * (wrap64 (t849 - t851))))))) else (some false)) else (some false)) = some r := by rw [if_pos rfl] at H; exact H
          clear H
          have H := H1
          clear H1
          by_cases c37 : t850 = true
          ·subst c37
           have H1 : (if t852 = true then ((laws_pSum.f k2 t836).bind fun t854 => (some (t854 == (wrap64 (2 * (wrap64 (t849 - t851))))))) else (some false)) = some r := by rw [if_pos rfl] at H; exact H
           clear H
           have H := H1
           clear H1
           by_cases c38 : t852 = true
           ·subst c38
            have H1 : ((laws_pSum.f k2 t836).bind fun t854 => (some (t854 == (wrap64 (2 * (wrap64 (t849 - t851))))))) = some r := by rw [if_pos rfl] at H; exact H
            clear H
            have H := H1
            clear H1
            replace H := Option.bind_eq_some_iff.mp H
            obtain ⟨t854, A390, H⟩ := H
            replace H : (some (t854 == (wrap64 (2 * (wrap64 (t849 - t851)))))) = some r := H
            have A39 := Aside0.mk A390
            clear A390
            obtain rfl := Option.some.inj H
            go_wp2_with (first | (go_at_call 59; (with_reducible refine (laws_pSum.calls k2 _ _ t836 t854 _ ?side1 ?side2 A39.out).mono ?_); (case side1 => repeat (first | exact (Kd.R_reads' HO_8.out).2.2 | (with_reducible refine Kd.C_alloc ?_ _) | (with_reducible refine Kd.C_drewN ?_ _) | (with_reducible refine Kd.C_drew ?_))); (case side2 => exact (Kd.R_reads' HO_8.out).2.1); rintro e w' ⟨rfl, ⟨nd, rfl⟩⟩))
            go_ret
            exact ⟨by first | rfl | (simp [errW_none, errW_some] <;> rfl) | (simp [*, errW_none, errW_some] <;> rfl), by repeat (first | (with_reducible first | exact HB.out | apply below_alloc | apply pw_below_drewN | apply below_drew1 | refine below_set ?_ GE835.out) | exact HB.out)⟩
           ·replace c38 := Bool.eq_false_iff.mpr c38
            subst c38
            have H1 : (some false) = some r := by rw [if_neg (show ¬ (false = true) by decide)] at H; exact H
            clear H
            have H := H1
            clear H1
            obtain rfl := Option.some.inj H
            go_wp2
            go_ret
            exact ⟨by first | rfl | (simp [errW_none, errW_some] <;> rfl) | (simp [*, errW_none, errW_some] <;> rfl), by repeat (first | (with_reducible first | exact HB.out | apply below_alloc | apply pw_below_drewN | apply below_drew1 | refine below_set ?_ GE835.out) | exact HB.out)⟩
          ·replace c37 := Bool.eq_false_iff.mpr c37
           subst c37
           have H1 : (some false) = some r := by rw [if_neg (show ¬ (false = true) by decide)] at H; exact H
           clear H
           have H := H1
           clear H1
           obtain rfl := Option.some.inj H
           go_wp2
           go_ret
           exact ⟨by first | rfl | (simp [errW_none, errW_some] <;> rfl) | (simp [*, errW_none, errW_some] <;> rfl), by repeat (first | (with_reducible first | exact HB.out | apply below_alloc | apply pw_below_drewN | apply below_drew1 | refine below_set ?_ GE835.out) | exact HB.out)⟩
         ·replace c36 := Bool.eq_false_iff.mpr c36
          subst c36
          have H1 : (some false) = some r := by rw [if_neg (show ¬ (false = true) by decide)] at H; exact H
          clear H
          have H := H1
          clear H1
          obtain rfl := Option.some.inj H
          go_wp2
          go_ret
          exact ⟨by first | rfl | (simp [errW_none, errW_some] <;> rfl) | (simp [*, errW_none, errW_some] <;> rfl), by repeat (first | (with_reducible first | exact HB.out | apply below_alloc | apply pw_below_drewN | apply below_drew1 | refine below_set ?_ GE835.out) | exact HB.out)⟩
     ·replace c22 := Bool.eq_false_iff.mpr c22
      subst c22
      have H1 : (some true) = some r := by rw [if_neg (show ¬ (false = true) by decide)] at H; exact H
      clear H
      have H := H1
      clear H1
      obtain rfl := Option.some.inj H
      go_wp2
      go_ret
      exact ⟨by first | rfl | (simp [errW_none, errW_some] <;> rfl) | (simp [*, errW_none, errW_some] <;> rfl), by repeat (first | (with_reducible first | exact HB.out | apply below_alloc | apply pw_below_drewN | apply below_drew1 | refine below_set ?_ GE835.out) | exact HB.out)⟩

/-- THE ONE PURE STATEMENT of laws_FnGiftsInSums: yours. -/
def laws_FnGiftsInSums.Pure : Prop := ∀ (l0 : List Int) (l1 : List Int), l0.length ≤ maxLen → l0.length * 1 ≤ 140737488351232 → (∀ x ∈ l0, (Lit.int .u8 x).wf = true) → l1.length ≤ maxLen → l1.length * 1 ≤ 140737488351232 → (∀ x ∈ l1, (Lit.int .u8 x).wf = true) → ∃ k, laws_FnGiftsInSums.f k l0 l1 = some true
theorem laws_FnGiftsInSums.walk (P : laws_FnGiftsInSums.Pure) (a0 : Option Addr) (len0 cap0 : Nat) (z0 : List Int) (a1 : Option Addr) (len1 cap1 : Nat) (z1 : List Int) (w : World) (w0 : (a0 = none ∧ len0 = 0 ∧ cap0 = 0 ∧ z0 = []) ∨ ∃ x, a0 = some x ∧ len0 ≤ cap0 ∧ cap0 ≤ maxLen ∧ z0.length = cap0 ∧ (∀ i, i < z0.length → w.cell? (x.add i) = some (.int .u8 (z0.getD i 0))) ∧ ∀ n ∈ z0, (Lit.int .u8 n).wf = true) (y0 : len0 * 1 ≤ 140737488351232) (w1 : (a1 = none ∧ len1 = 0 ∧ cap1 = 0 ∧ z1 = []) ∨ ∃ x, a1 = some x ∧ len1 ≤ cap1 ∧ cap1 ≤ maxLen ∧ z1.length = cap1 ∧ (∀ i, i < z1.length → w.cell? (x.add i) = some (.int .u8 (z1.getD i 0))) ∧ ∀ n ∈ z1, (Lit.int .u8 n).wf = true) (y1 : len1 * 1 ≤ 140737488351232) :
  Calls Try.prog 9 #[.slice a0 len0 cap0, .slice a1 len1 cap1] w fun e w' => e = .returned (.bool true) ∧ Below w.heap.size w w' := by
 obtain ⟨l0, rfl, hr0, hm0, hw0, hc0⟩ := ReadsInt.ofRowC w0
 obtain ⟨l1, rfl, hr1, hm1, hw1, hc1⟩ := ReadsInt.ofRowC w1
 obtain ⟨k, h⟩ := P l0 l1 hm0 y0 hw0 hm1 y1 hw1
 refine (laws_FnGiftsInSums.calls k _ _ l0 _ _ l1 true w (Kd.C_of_reads (d := (0 : Int)) (h1 := fun _ => rfl) hr0) hc0 (Kd.C_of_reads (d := (0 : Int)) (h1 := fun _ => rfl) hr1) hc1 h).mono ?_
 rintro e w' ⟨rfl, hd⟩
 exact ⟨rfl, hd⟩

def pr (F : Nat → Int) : Nat → Int
  | 0 => 1
  | n + 1 => pr F n * F n
theorem pr_congr (F G : Nat → Int) : ∀ n, (∀ i, i < n → F i = G i) → pr F n = pr G n
  | 0, _ => rfl
  | n + 1, h => by
    show pr F n * F n = pr G n * G n
    rw [pr_congr F G n (fun i hi => h i (by omega)), h n (by omega)]
theorem pr_pull (F : Nat → Int) (f : Nat) : ∀ n, f < n → pr F n = F f * pr (fun i => if i = f then 1 else F i) n
  | 0, h => by omega
  | n + 1, h => by
    show pr F n * F n = F f * (pr _ n * _)
    by_cases hf : f = n
    · subst hf
      rw [pr_congr (fun i => if i = f then 1 else F i) F f (fun i hi => by show (if i = f then 1 else F i) = F i; rw [if_neg (by omega)])]
      show pr F f * F f = F f * (pr F f * if f = f then 1 else F f)
      rw [if_pos rfl, Int.mul_one, Int.mul_comm]
    · show pr F n * F n = F f * (pr (fun i => if i = f then 1 else F i) n * if n = f then 1 else F n)
      rw [pr_pull F f n (by omega), if_neg (fun h => hf h.symm), Int.mul_assoc]
def rest (F : Nat → Int) (f t : Nat) (n : Nat) : Int := pr (fun i => if i ≠ f ∧ i ≠ t then F i else 1) n
theorem pr_pull2 (F : Nat → Int) (f t n : Nat) (hf : f < n) (ht : t < n) (hne : f ≠ t) : pr F n = F f * F t * rest F f t n := by
  rw [pr_pull F f n hf, pr_pull _ t n ht, if_neg (fun h => hne h.symm), ← Int.mul_assoc]
  congr 1
  unfold rest
  refine pr_congr _ _ n (fun i _ => ?_)
  by_cases h1 : i = f <;> by_cases h2 : i = t <;> simp [h1, h2]
theorem pr_pos (F : Nat → Int) : ∀ n, (∀ i, i < n → 1 ≤ F i) → 1 ≤ pr F n
  | 0, _ => Int.le_refl 1
  | n + 1, h => by
    have h1 := pr_pos F n (fun i hi => h i (by omega))
    have h2 := h n (by omega)
    show 1 ≤ pr F n * F n
    have := Int.mul_le_mul h1 h2 (by omega) (by omega)
    omega
theorem pow_pos' (u : Int) (hu : 1 ≤ u) : ∀ k : Nat, 1 ≤ u ^ k
  | 0 => by simp
  | k + 1 => by
    rw [Int.pow_succ]
    have := Int.mul_le_mul (pow_pos' u hu k) hu (by omega) (by have := pow_pos' u hu k; omega)
    omega
theorem pow_mono' (u v : Int) (hu : 1 ≤ u) (h : u ≤ v) : ∀ k : Nat, u ^ k ≤ v ^ k
  | 0 => by simp
  | k + 1 => by
    rw [Int.pow_succ, Int.pow_succ]
    exact Int.mul_le_mul (pow_mono' u v hu h k) h (by omega) (by have := pow_pos' v (by omega) k; omega)
theorem pow_lt' (u v : Int) (hu : 1 ≤ u) (h : u < v) : ∀ k : Nat, 1 ≤ k → u ^ k < v ^ k
  | 0, hk => by omega
  | k + 1, _ => by
    rw [Int.pow_succ, Int.pow_succ]
    have h1 := pow_mono' u v hu (by omega) k
    have h2 := pow_pos' u hu k
    have h3 : u ^ k * u < u ^ k * v := Int.mul_lt_mul_of_pos_left h (by omega)
    have h4 : u ^ k * v ≤ v ^ k * v := Int.mul_le_mul_of_nonneg_right h1 (by omega)
    omega
/-- The term of a gift. -/
def T (u v : Int) (q d : Nat) (R : Int) : Int := (u * v) ^ q * (u ^ d - v ^ d) * (u - v) * R
theorem T_eq (u v : Int) (q d : Nat) (R : Int) : T u v q d R = (u ^ (q + d + 1) * v ^ q * R - u ^ (q + d) * v ^ (q + 1) * R) + (v ^ (q + d + 1) * u ^ q * R - v ^ (q + d) * u ^ (q + 1) * R) := by
  unfold T
  rw [Int.mul_pow]
  simp only [Int.pow_succ, Int.pow_add]
  generalize u ^ q = a
  generalize v ^ q = b
  generalize u ^ d = c
  generalize v ^ d = e
  grind
theorem T_nonneg (u v : Int) (q d : Nat) (R : Int) (hu : 1 ≤ u) (hv : 1 ≤ v) (hR : 1 ≤ R) : 0 ≤ T u v q d R := by
  unfold T
  have h1 := pow_pos' (u * v) (by have := Int.mul_le_mul hu hv (by omega) (by omega); omega) q
  have h2 : 0 ≤ (u ^ d - v ^ d) * (u - v) := by
    by_cases h : u ≤ v
    · have := pow_mono' u v hu h d
      have e : (u ^ d - v ^ d) * (u - v) = (v ^ d - u ^ d) * (v - u) := by grind
      rw [e]; exact Int.mul_nonneg (by omega) (by omega)
    · have := pow_mono' v u hv (by omega) d
      exact Int.mul_nonneg (by omega) (by omega)
  rw [Int.mul_assoc ((u * v) ^ q)]
  exact Int.mul_nonneg (Int.mul_nonneg (by omega) h2) (by omega)
theorem T_pos (u v : Int) (q d : Nat) (R : Int) (hu : 1 ≤ u) (hv : 1 ≤ v) (hR : 1 ≤ R) (hne : u ≠ v) (hd : 1 ≤ d) : 0 < T u v q d R := by
  unfold T
  have h1 := pow_pos' (u * v) (by have := Int.mul_le_mul hu hv (by omega) (by omega); omega) q
  have h2 : 0 < (u ^ d - v ^ d) * (u - v) := by
    by_cases h : u < v
    · have := pow_lt' u v hu h d hd
      have e : (u ^ d - v ^ d) * (u - v) = (v ^ d - u ^ d) * (v - u) := by grind
      rw [e]; exact Int.mul_pos (by omega) (by omega)
    · have := pow_lt' v u hv (by omega) d hd
      exact Int.mul_pos (by omega) (by omega)
  rw [Int.mul_assoc ((u * v) ^ q)]
  exact Int.mul_pos (Int.mul_pos (by omega) h2) (by omega)
/-! ### sums of lists -/
def lsum : List Int → Int
  | [] => 0
  | x :: l => x + lsum l
theorem lsum_append (a b : List Int) : lsum (a ++ b) = lsum a + lsum b := by
  induction a with
  | nil => show lsum b = 0 + lsum b; omega
  | cons x a ih => show x + lsum (a ++ b) = (x + lsum a) + lsum b; rw [ih]; omega
theorem lsum_perm {a b : List Int} (h : a.Perm b) : lsum a = lsum b := by
  induction h with
  | nil => rfl
  | cons x _ ih => show x + _ = x + _; rw [ih]
  | swap x y l => show y + (x + lsum l) = x + (y + lsum l); omega
  | trans _ _ h1 h2 => rw [h1, h2]
theorem lsum_map_add {α : Type} (f g : α → Int) (l : List α) : lsum (l.map fun x => f x + g x) = lsum (l.map f) + lsum (l.map g) := by
  induction l with
  | nil => rfl
  | cons x l ih => show (f x + g x) + lsum (l.map _) = (f x + lsum (l.map f)) + (g x + lsum (l.map g)); rw [ih]; omega
theorem lsum_map_sub {α : Type} (f g : α → Int) (l : List α) : lsum (l.map fun x => f x - g x) = lsum (l.map f) - lsum (l.map g) := by
  induction l with
  | nil => rfl
  | cons x l ih => show (f x - g x) + lsum (l.map _) = (f x + lsum (l.map f)) - (g x + lsum (l.map g)); rw [ih]; omega
theorem lsum_map_congr {α : Type} (f g : α → Int) (l : List α) (h : ∀ x ∈ l, f x = g x) : lsum (l.map f) = lsum (l.map g) := by
  rw [List.map_congr_left h]
theorem lsum_bound (B : Int) : ∀ l : List Int, (∀ x ∈ l, -B ≤ x ∧ x ≤ B) → -((l.length : Int) * B) ≤ lsum l ∧ lsum l ≤ (l.length : Int) * B
  | [], _ => by simp [lsum]
  | x :: l, h => by
    obtain ⟨h1, h2⟩ := lsum_bound B l (fun y hy => h y (List.mem_cons_of_mem _ hy))
    have h3 := h x List.mem_cons_self
    have e : (((x :: l).length : Nat) : Int) * B = (l.length : Int) * B + B := by rw [List.length_cons]; push_cast; rw [Int.add_mul, Int.one_mul]
    rw [e]
    show _ ≤ x + lsum l ∧ x + lsum l ≤ _
    omega
theorem lsum_nonneg : ∀ l : List Int, (∀ x ∈ l, 0 ≤ x) → 0 ≤ lsum l
  | [], _ => Int.le_refl _
  | x :: l, h => by
    have h1 := lsum_nonneg l (fun y hy => h y (List.mem_cons_of_mem _ hy))
    have h2 := h x List.mem_cons_self
    show 0 ≤ x + lsum l
    omega
/-- Sums that wrap, of numbers that are small. -/
theorem fold_wrap (B : Int) (hB : 0 ≤ B) : ∀ (l : List Int) (s : Int), (∀ x ∈ l, -B ≤ x ∧ x ≤ B) → -4611686018427387904 ≤ s - (l.length : Int) * B → s + (l.length : Int) * B ≤ 4611686018427387904 → l.foldl (fun s x => wrap64 (s + x)) s = s + lsum l
  | [], s, _, _, _ => by show s = s + 0; omega
  | x :: l, s, h, h1, h2 => by
    have h3 := h x List.mem_cons_self
    have e : (((x :: l).length : Nat) : Int) * B = (l.length : Int) * B + B := by rw [List.length_cons]; push_cast; rw [Int.add_mul, Int.one_mul]
    rw [e] at h1 h2
    have hn : 0 ≤ (l.length : Int) * B := Int.mul_nonneg (by omega) hB
    have hw : wrap64 (s + x) = s + x := by unfold wrap64; omega
    rw [List.foldl_cons, hw, fold_wrap B hB l (s + x) (fun y hy => h y (List.mem_cons_of_mem _ hy)) (by omega) (by omega)]
    show s + x + lsum l = s + (x + lsum l)
    omega
theorem absmul (B b P p : Int) (h1 : -b ≤ B) (h2 : B ≤ b) (h3 : 0 ≤ P) (h4 : P ≤ p) (h5 : 0 ≤ b) : -(b * p) ≤ B * P ∧ B * P ≤ b * p := by
  have k1 : B * P ≤ b * P := Int.mul_le_mul_of_nonneg_right h2 h3
  have k2 : b * P ≤ b * p := Int.mul_le_mul_of_nonneg_left h4 h5
  have k3 : -b * P ≤ B * P := Int.mul_le_mul_of_nonneg_right h1 h3
  have k4 : -b * P = -(b * P) := Int.neg_mul _ _
  omega
theorem pr_mono (F : Nat → Int) (m : Nat) : ∀ n, m ≤ n → (∀ i, i < n → 1 ≤ F i) → pr F m ≤ pr F n
  | 0, h, _ => by obtain rfl : m = 0 := Nat.le_zero.1 h; exact Int.le_refl _
  | n + 1, h, hF => by
    by_cases e : m = n + 1
    · subst e; exact Int.le_refl _
    · have h1 := pr_mono F m n (by omega) (fun i hi => hF i (by omega))
      have h2 := pr_pos F n (fun i hi => hF i (by omega))
      have h3 := hF n (by omega)
      have h4 : pr F n * 1 ≤ pr F n * F n := Int.mul_le_mul_of_nonneg_left h3 (by omega)
      show pr F m ≤ pr F n * F n
      omega
theorem pr_le (F : Nat → Int) (B : Int) (hB : 1 ≤ B) : ∀ n, (∀ i, i < n → 1 ≤ F i ∧ F i ≤ B) → pr F n ≤ B ^ n
  | 0, _ => by show (1 : Int) ≤ B ^ 0; simp
  | n + 1, h => by
    have h1 := pr_le F B hB n (fun i hi => h i (by omega))
    have h2 := pr_pos F n (fun i hi => (h i (by omega)).1)
    have h3 := h n (by omega)
    show pr F n * F n ≤ B ^ (n + 1)
    rw [Int.pow_succ]
    exact Int.mul_le_mul h1 h3.2 (by omega) (by have := pow_pos' B hB n; omega)
theorem mul2 (a b : Int) (h1 : 1 ≤ a) (h2 : a ≤ 6561) (h3 : 1 ≤ b) (h4 : b ≤ 6561) : a * b ≤ 43046721 := by
  have := Int.mul_le_mul h2 h4 (by omega) (by omega)
  omega
theorem rest_le (F : Nat → Int) (f t n : Nat) (hn : n ≤ 4) (hf : f < n) (ht : t < n) (hne : f ≠ t) (h : ∀ i, i < n → 1 ≤ F i ∧ F i ≤ 6561) : rest F f t n ≤ 43046721 := by
  have hn2 : n = 2 ∨ n = 3 ∨ n = 4 := by omega
  rcases hn2 with rfl | rfl | rfl
  · have e : (f = 0 ∧ t = 1) ∨ (f = 1 ∧ t = 0) := by omega
    rcases e with ⟨rfl, rfl⟩ | ⟨rfl, rfl⟩ <;> (simp [rest, pr])
  · have h0 := h 0 (by omega)
    have h1 := h 1 (by omega)
    have h2 := h 2 (by omega)
    have e : (f = 0 ∧ t = 1) ∨ (f = 1 ∧ t = 0) ∨ (f = 0 ∧ t = 2) ∨ (f = 2 ∧ t = 0) ∨ (f = 1 ∧ t = 2) ∨ (f = 2 ∧ t = 1) := by omega
    rcases e with ⟨rfl, rfl⟩ | ⟨rfl, rfl⟩ | ⟨rfl, rfl⟩ | ⟨rfl, rfl⟩ | ⟨rfl, rfl⟩ | ⟨rfl, rfl⟩ <;> (simp [rest, pr]; omega)
  · have h0 := h 0 (by omega)
    have h1 := h 1 (by omega)
    have h2 := h 2 (by omega)
    have h3 := h 3 (by omega)
    have g01 := mul2 (F 0) (F 1) h0.1 h0.2 h1.1 h1.2
    have g02 := mul2 (F 0) (F 2) h0.1 h0.2 h2.1 h2.2
    have g03 := mul2 (F 0) (F 3) h0.1 h0.2 h3.1 h3.2
    have g12 := mul2 (F 1) (F 2) h1.1 h1.2 h2.1 h2.2
    have g13 := mul2 (F 1) (F 3) h1.1 h1.2 h3.1 h3.2
    have g23 := mul2 (F 2) (F 3) h2.1 h2.2 h3.1 h3.2
    have e : (f = 0 ∧ t = 1) ∨ (f = 1 ∧ t = 0) ∨ (f = 0 ∧ t = 2) ∨ (f = 2 ∧ t = 0) ∨ (f = 1 ∧ t = 2) ∨ (f = 2 ∧ t = 1) ∨ (f = 0 ∧ t = 3) ∨ (f = 3 ∧ t = 0) ∨ (f = 1 ∧ t = 3) ∨ (f = 3 ∧ t = 1) ∨ (f = 2 ∧ t = 3) ∨ (f = 3 ∧ t = 2) := by omega
    rcases e with ⟨rfl, rfl⟩ | ⟨rfl, rfl⟩ | ⟨rfl, rfl⟩ | ⟨rfl, rfl⟩ | ⟨rfl, rfl⟩ | ⟨rfl, rfl⟩ | ⟨rfl, rfl⟩ | ⟨rfl, rfl⟩ | ⟨rfl, rfl⟩ | ⟨rfl, rfl⟩ | ⟨rfl, rfl⟩ | ⟨rfl, rfl⟩ <;> (simp [rest, pr]; omega)

def impl_isPlan.p (n : Nat) (r : List Int) : Bool := decide (r.length = n) && r.all fun x => decide (0 ≤ x) && decide (x ≤ 60)
def impl_isPlan.f (l0 : List (List Int)) : Option Bool := some (decide (1 ≤ l0.length) && decide (l0.length ≤ 8) && l0.all (impl_isPlan.p l0.length))
/-- All numbers of a list lie between two others: what the printed loop comes to. -/
theorem impl_isPlan.all (l : List Int) (a b : Int) (hl : l.length ≤ 9223372036854775807) : ∀ d k (i : Nat), i ≤ l.length → l.length - i = d → d < k →
  impl_allWithin.l0 k a b l (l.length : Int) (i : Int) = some ((l.drop i).all fun x => decide (a ≤ x) && decide (x ≤ b)) := by
 intro d
 induction d with
 | zero =>
  intro k i hi hd hk
  obtain ⟨k, rfl⟩ : ∃ m, k = m + 1 := ⟨k - 1, by omega⟩
  have : i = l.length := by omega
  subst this
  simp only [impl_allWithin.l0]
  rw [if_neg (by omega)]
  simp
 | succ d ih =>
  intro k i hi hd hk
  obtain ⟨k, rfl⟩ : ∃ m, k = m + 1 := ⟨k - 1, by omega⟩
  have hlt : i < l.length := by omega
  simp only [impl_allWithin.l0]
  rw [if_pos (by omega), if_pos (by omega), if_pos (by omega)]
  have hw : wrap64 ((i : Int) + 1) = ((i + 1 : Nat) : Int) := by unfold wrap64; omega
  have hr : rd l (i : Int) = l[i] := by unfold rd; simp [hlt]
  rw [hw, ih k (i + 1) (by omega) (by omega) (by omega), hr, List.drop_eq_getElem_cons hlt, List.all_cons]
  unfold impl_within.f
  by_cases h1 : l[i] ≥ a
  ·rw [if_pos h1]
   by_cases h2 : l[i] ≤ b
   ·simp only [decide_eq_true h2, Option.bind_some, if_true, decide_eq_true (show a ≤ l[i] from h1), Bool.and_self, Bool.true_and]
   ·simp only [decide_eq_false h2, Option.bind_some, Bool.and_false, Bool.false_and]; rfl
  ·rw [if_neg h1]
   simp only [decide_eq_false (show ¬ a ≤ l[i] from h1), Option.bind_some, Bool.false_and]; rfl
theorem impl_isPlan.allf (l : List Int) (a b : Int) (hl : l.length ≤ 9223372036854775807) : impl_allWithin.f (l.length + 1) l a b = some (l.all fun x => decide (a ≤ x) && decide (x ≤ b)) := by
 have h := impl_isPlan.all l a b hl l.length (l.length + 1) 0 (by omega) (by omega) (by omega)
 simpa [impl_allWithin.f] using h
set_option maxHeartbeats 400000 in
set_option maxRecDepth 100000 in
/-- The closure: it refuses a row. -/
theorem impl_isPlan.closure (A : Option Addr) (c : Nat) (l : List Int) (B n cm : Nat) (Am : Option Addr) (w : World) (hr : Kd.C (Kd.int .i64) w A l.length l) (hc : l.length ≤ c) (hl : l.length ≤ 9223372036854775807) (hm : w.cell? ⟨B, 0, none⟩ = some (.slice Am n cm)) :
  Calls Try.prog 205 #[.slice A l.length c, .pointer (some ⟨B, 0, none⟩)] w fun e w' => e = .returned (.bool (!impl_isPlan.p n l)) ∧ Drawn0 w w' := by
 by_cases hn : l.length = n
 ·have hn1 : (l.length == n) = true := by simpa using hn
  have hn2 : ((l.length : Int) != (n : Int)) = false := by simp [hn]
  have hp : impl_isPlan.p n l = l.all fun x => decide (0 ≤ x) && decide (x ≤ 60) := by simp [impl_isPlan.p, hn]
  rw [hp]
  have hf := impl_isPlan.allf l 0 60 hl
  clear hp hn
  have HF := Aside0.mk hf
  clear hf
  go_enter Try.func205, Try.ntmps205
  go_wp2_with (go_at_call 174; refine (impl_allWithin.calls _ _ _ l 0 60 _ _ hr hc HF.out).mono ?_; rintro e w' ⟨rfl, ⟨nd, rfl⟩⟩)
  go_ret
  exact ⟨rfl, by repeat (first | exact Drawn0.refl _ | apply Drawn0.step)⟩
 ·have hn2 : ((l.length : Int) != (n : Int)) = true := by simp; omega
  have hp : impl_isPlan.p n l = false := by simp [impl_isPlan.p, hn]
  rw [hp]
  clear hp
  go_enter Try.func205, Try.ntmps205
  go_wp2
  go_ret
  exact ⟨rfl, by repeat (first | exact Drawn0.refl _ | apply Drawn0.step)⟩
set_option maxHeartbeats 400000 in
set_option maxRecDepth 100000 in
/-- slices.IndexFunc over rows, at a predicate that may lay blocks of its own. -/
theorem impl_isPlan.index (pr : List Int → Bool) (g : Nat) (lb : Array Value) (eg : ∀ args w, (callFunc g args).run Try.prog w = .ok (.enter g args) w) (A : Option Addr) (c : Nat) (l0 : List (List Int)) (w : World)
  (hr : Kd.C (Kd.slice 3 (Kd.int .i64)) w A l0.length l0)
  (hp : ∀ (W : World) (A' : Option Addr) (c' : Nat) (l : List Int), Below w.heap.size w W → Kd.C (Kd.int .i64) W A' l.length l → l.length ≤ c' → l ∈ l0 → Calls Try.prog g (#[.slice A' l.length c'] ++ lb) W fun e w' => e = .returned (.bool (pr l)) ∧ Below W.heap.size W w') :
  Calls Try.prog 224 #[.slice A l0.length c, .func (.func g) #[] lb] w fun e w' => ∃ r : Int, e = .returned (.int .i64 r) ∧ (decide (r ≥ 0) = l0.any pr) ∧ Below w.heap.size w w' := by
 have hmax := Kd.C_max hr
 have HR := Aside0.mk hr
 have HP := Aside0.mk hp
 clear hr hp
 go_enter Try.func224, Try.ntmps224
 go_wp2
 go_loopg [5, 8] l0.length (fun gg _ s8 wr => ∃ kk : Nat, kk ≤ l0.length ∧ l0.length - kk ≤ gg ∧ s8 = .int .i64 kk ∧ Aside0 (Below w.heap.size w wr) ∧ Aside0 ((l0.take kk).any pr = false))
 case atStart => exact ⟨0, Nat.zero_le _, by omega, rfl, ⟨Below.refl _ w⟩, ⟨by simp⟩⟩
 case round =>
  obtain ⟨kk, hkk, hg, rfl, BW, TA⟩ := hrel
  by_cases hlt : kk < l0.length
  ·have hltz : (kk : Int) < (l0.length : Int) := by omega
   have hz : (0 : Int) ≤ (kk : Int) := by omega
   obtain ⟨ad, A1, c1, e1, hx, hl1, hi1⟩ := at_L2 HR.out (kk : Int) hz hltz
   cases e1
   have hrd : rd_L2 l0 (kk : Int) = l0[kk] := by unfold rd_L2; simp [hlt]
   have hx2 := (BW.out.cell (World.block_lt_of_cell? w _ hx)).trans hx
   have hi2 := Kd.C_below hi1 BW.out
   rw [hrd, Int.toNat_natCast] at hx2
   rw [hrd] at hi2 hl1
   have hcall := HP.out wr A1 c1 l0[kk] BW.out hi2 hl1 (List.getElem_mem hlt)
   have hsnoc : (l0.take (kk + 1)).any pr = ((l0.take kk).any pr || pr l0[kk]) := by rw [List.take_succ_eq_append_getElem hlt, List.any_append]; simp
   have SN := Aside0.mk hsnoc
   clear hx hi1 hrd hsnoc
   generalize hy : l0[kk] = y at hcall hx2 hi2 hl1 SN
   have MY := Aside0.mk (show y ∈ l0 from hy ▸ List.getElem_mem hlt)
   clear hy hi2
   cases hq : pr y with
   | true =>
    rw [hq] at hcall
    have hq2 := Aside0.mk hq
    clear hq
    go_wp2_with (go_at_fn g; refine hcall.mono ?_; rintro e w' ⟨rfl, hb'⟩)
    go_ret
    refine ⟨_, rfl, ?_, below_step BW.out hb'⟩
    rw [List.any_eq_true.2 ⟨y, MY.out, hq2.out⟩]
    simp
   | false =>
    rw [hq] at hcall
    have hq2 := Aside0.mk hq
    clear hq
    go_wp2_with (go_at_fn g; refine hcall.mono ?_; rintro e w' ⟨rfl, hb'⟩)
    have HB' := Aside0.mk hb'
    clear hb'
    go_roundg (l0.length - (kk + 1))
    case measure => omega
    case rel => exact ⟨kk + 1, by omega, by omega, by go_num, ⟨below_step BW.out HB'.out⟩, ⟨by rw [SN.out, TA.out, hq2.out]; rfl⟩⟩
  ·have hltz : ¬ (kk : Int) < (l0.length : Int) := by omega
   have hk2 : kk = l0.length := by omega
   subst hk2
   have hfin : l0.any pr = false := by have := TA.out; rwa [List.take_length] at this
   have HF := Aside0.mk hfin
   clear hfin
   go_wp2
   go_ret
   exact ⟨_, rfl, by rw [HF.out]; rfl, BW.out⟩
set_option maxHeartbeats 400000 in
theorem impl_isPlan.contains (pr : List Int → Bool) (g : Nat) (lb : Array Value) (eg : ∀ args w, (callFunc g args).run Try.prog w = .ok (.enter g args) w) (A : Option Addr) (c : Nat) (l0 : List (List Int)) (w : World)
  (hr : Kd.C (Kd.slice 3 (Kd.int .i64)) w A l0.length l0)
  (hp : ∀ (W : World) (A' : Option Addr) (c' : Nat) (l : List Int), Below w.heap.size w W → Kd.C (Kd.int .i64) W A' l.length l → l.length ≤ c' → l ∈ l0 → Calls Try.prog g (#[.slice A' l.length c'] ++ lb) W fun e w' => e = .returned (.bool (pr l)) ∧ Below W.heap.size W w') :
  Calls Try.prog 204 #[.slice A l0.length c, .func (.func g) #[] lb] w fun e w' => e = .returned (.bool (l0.any pr)) ∧ Below w.heap.size w w' := by
 have hi := impl_isPlan.index pr g lb eg A c l0 w hr hp
 clear hr hp
 go_enter Try.func204, Try.ntmps204
 go_wp2_with (go_at_call 224; refine hi.mono ?_; rintro e w' ⟨r, rfl, hr, hb⟩)
 have HR := Aside0.mk hr
 clear hr
 go_ret
 exact ⟨by rw [← HR.out]; rfl, hb⟩
set_option maxHeartbeats 400000 in
set_option maxRecDepth 100000 in
theorem impl_isPlan.calls (A0 : Option Addr) (c0 : Nat) (l0 : List (List Int)) (r : Bool) (w : World) (hr0 : Kd.C (Kd.slice 3 (Kd.int .i64)) w A0 l0.length l0) (hc0 : l0.length ≤ c0) (h : impl_isPlan.f l0 = some r) :
  Calls Try.prog 118 #[.slice A0 l0.length c0] w fun e w' => e = .returned (.bool r) ∧ Below w.heap.size w w' := by
 obtain rfl := Option.some.inj h
 clear h
 have hmf : ∀ (fn : Fn) (first cap : Array Value) (w : World), (Instr.makeFunc fn first cap).run Try.prog w = .ok (.func fn first cap) w := fun _ _ _ _ => rfl
 have HR := Aside0.mk hr0
 have HC := Aside0.mk hc0
 clear hr0 hc0
 by_cases h8 : l0.length ≤ 8
 ·by_cases h1 : 1 ≤ l0.length
  ·have hw : impl_within.f (l0.length : Int) 1 8 = some true := by unfold impl_within.f; rw [if_pos (by omega), decide_eq_true (by omega)]
   have HW := Aside0.mk hw
   have hany : l0.any (fun l => !impl_isPlan.p l0.length l) = !(l0.all (impl_isPlan.p l0.length)) := by rw [List.not_all_eq_any_not]
   have HA := Aside0.mk hany
   have hcell : (w.alloc (.cells #[.slice A0 l0.length c0] 37)).cell? ⟨w.heap.size, 0, none⟩ = some (.slice A0 l0.length c0) := by rw [World.cell?_alloc_at _ _ _ _ rfl]; rfl
   have hlt : w.heap.size < (w.alloc (.cells #[.slice A0 l0.length c0] 37)).heap.size := by simp
   have hcon := fun (n : Nat) => impl_isPlan.contains (fun l => !impl_isPlan.p l0.length l) 205 #[.pointer (some ⟨w.heap.size, 0, none⟩)] (enters_of Try.func205 (by kernel_rfl) rfl) A0 c0 l0 ((w.alloc (.cells #[.slice A0 l0.length c0] 37)).drewN n) (Kd.C_drewN (Kd.C_alloc HR.out _) n)
    (fun W A' c' l hb hl hc hm => by
     have hmx := Kd.C_max hl
     refine (impl_isPlan.closure A' c' l w.heap.size l0.length c0 A0 W hl hc ?_ ?_).mono ?_
     ·exact hmx
     ·exact (hb.cell (p := ⟨w.heap.size, 0, none⟩) hlt).trans hcell
     ·rintro e w' ⟨rfl, hd⟩
      exact ⟨rfl, hd.below⟩)
   have HCON := Aside0.mk hcon
   clear hcon hw hany hcell hlt
   have hd1 : decide (1 ≤ l0.length) = true := decide_eq_true h1
   have hd8 : decide (l0.length ≤ 8) = true := decide_eq_true h8
   rw [hd1, hd8, Bool.true_and, Bool.true_and]
   clear hd1 hd8
   go_enter Try.func118, Try.ntmps118
   go_wp2_with (first | (go_at_call 173; refine (impl_within.calls _ _ _ _ _ HW.out).mono ?_; rintro e w' ⟨rfl, ⟨nd, rfl⟩⟩) | (go_at_call 204; refine (HCON.out _).mono ?_; rintro e w' ⟨rfl, hb⟩))
   go_ret
   exact ⟨by show Ending.returned (Value.bool (!l0.any fun l => !impl_isPlan.p l0.length l)) = _; rw [HA.out, Bool.not_not], below_step (pw_below_drewN (below_alloc (Below.refl _ _) _) _) hb⟩
  ·have hw : impl_within.f (l0.length : Int) 1 8 = some false := by unfold impl_within.f; rw [if_neg (by omega)]
   have HW := Aside0.mk hw
   clear hw
   have hd1 : decide (1 ≤ l0.length) = false := decide_eq_false h1
   rw [hd1, Bool.false_and, Bool.false_and]
   clear hd1
   go_enter Try.func118, Try.ntmps118
   go_wp2_with (go_at_call 173; refine (impl_within.calls _ _ _ _ _ HW.out).mono ?_; rintro e w' ⟨rfl, ⟨nd, rfl⟩⟩)
   go_ret
   exact ⟨rfl, pw_below_drewN (below_alloc (Below.refl _ _) _) _⟩
 ·have hw : impl_within.f (l0.length : Int) 1 8 = some false := by unfold impl_within.f; rw [if_pos (by omega), decide_eq_false (by omega)]
  have HW := Aside0.mk hw
  clear hw
  have hd1 : decide (l0.length ≤ 8) = false := decide_eq_false h8
  rw [hd1, Bool.and_false, Bool.false_and]
  clear hd1
  go_enter Try.func118, Try.ntmps118
  go_wp2_with (go_at_call 173; refine (impl_within.calls _ _ _ _ _ HW.out).mono ?_; rintro e w' ⟨rfl, ⟨nd, rfl⟩⟩)
  go_ret
  exact ⟨rfl, pw_below_drewN (below_alloc (Below.refl _ _) _) _⟩

end Go.Proofs.Ytllnieknogficaa.K
