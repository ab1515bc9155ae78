/-
Part 2 of the proof of the law FnExactLoweringPlan: what the Go functions that it reaches come to, each proved of the given program; no condition beside those that each theorem names.
-/
import Derived.Test.YtllnieknogficaaMFnExactLoweringPlan1
namespace Go.Proofs.Ytllnieknogficaa.K
open Go.RowKit Go.Proofs.YtllnieknogficaaW.PrintWords Go.Proofs.YtllnieknogficaaW.PrintLast Go.Proofs.YtllnieknogficaaW.PrintMore
attribute [local go_sem] max2_int min2_int max_two min_two max_three min_three max_four min_four   -- for this text's walks alone
set_option linter.unusedVariables false
set_option linter.unusedSimpArgs false

/-! ### spec_plMonotone: function 139 -/
def spec_plMonotone.f (l0 l1 : List Int) : Option (List (List Int)) := if l0.length ≤ 1048576 ∧ l1.length ≤ 1048576 then impl_carry.go (l0.length + l1.length + 1) (impl_square.tab (fun _ _ => 0) l0.length l0.length) l0 l1 0 0 else none
theorem spec_plMonotone.empties (n : Nat) (hn : n ≤ 1048576) : ∀ d k (m : Nat), m ≤ n → n - m = d → d < k → spec_plEmpty.l0 k (n : Int) (List.replicate m (List.replicate n 0)) (m : Int) = some (List.replicate n (List.replicate n 0)) := by
  intro d
  induction d with
  | zero =>
    intro k m hm hd hk
    obtain ⟨k, rfl⟩ : ∃ k', k = k' + 1 := ⟨k - 1, by omega⟩
    have : m = n := by omega
    subst this
    simp only [spec_plEmpty.l0]
    rw [if_neg (by omega)]
  | succ d ih =>
    intro k m hm hd hk
    obtain ⟨k, rfl⟩ : ∃ k', k = k' + 1 := ⟨k - 1, by omega⟩
    simp only [spec_plEmpty.l0]
    rw [if_pos (by omega), if_pos (by omega), if_pos (by omega), if_pos (by simp; omega)]
    have hw : wrap64 ((m : Int) + 1) = ((m + 1 : Nat) : Int) := by unfold wrap64; omega
    rw [hw, Int.toNat_natCast, ← List.replicate_succ']
    exact ih k (m + 1) (by omega) (by omega) (by omega)
theorem spec_plMonotone.empty (n : Nat) (hn : n ≤ 1048576) : spec_plEmpty.f (n + 1) (n : Int) = some (impl_square.tab (fun _ _ => 0) n n) := by
  have h := spec_plMonotone.empties n hn n (n + 1) 0 (by omega) (by omega) (by omega)
  have h2 : impl_square.tab (fun _ _ => 0) n n = List.replicate n (List.replicate n 0) := by simp [impl_square.tab, List.map_const']
  rw [h2]
  exact h
set_option maxHeartbeats 4000000 in
set_option maxRecDepth 100000 in
theorem spec_plMonotone.calls (A0 : Option Addr) (c0 : Nat) (l0 : List Int) (A1 : Option Addr) (c1 : Nat) (l1 : List Int) (r : List (List Int)) (w : World) (hr0 : Kd.C (Kd.int .i64) w A0 l0.length l0) (hc0 : l0.length ≤ c0) (hr1 : Kd.C (Kd.int .i64) w A1 l1.length l1) (hc1 : l1.length ≤ c1) (h : spec_plMonotone.f l0 l1 = some r) :
    Calls Try.prog 139 #[.slice A0 l0.length c0, .slice A1 l1.length c1] w fun e w' => ∃ v0_ : Value, e = .returned (v0_) ∧ Kd.S (Kd.slice 3 (Kd.int .i64)) 24 w' w.heap.size (fun _ => True) v0_ r ∧ Below w.heap.size w w' := by
  unfold spec_plMonotone.f at h
  by_cases hs : l0.length ≤ 1048576 ∧ l1.length ≤ 1048576
  rotate_left
  · rw [if_neg hs] at h
    cases h
  rw [if_pos hs] at h
  obtain ⟨hs0, hs1⟩ := hs
  obtain ⟨k, hk⟩ : ∃ k, l0.length + l1.length + 1 = k := ⟨_, rfl⟩
  rw [hk] at h
  have HG := Aside0.mk h
  have HR0 := Aside0.mk hr0
  have HC0 := Aside0.mk hc0
  have HR1 := Aside0.mk hr1
  have HC1 := Aside0.mk hc1
  have H0 := Aside0.mk hs0
  have H1 := Aside0.mk hs1
  have HE := Aside0.mk (spec_plMonotone.empty l0.length hs0)
  have HO0 := Aside0.mk (show spec_l1Own.f l0 = some l0 from by simp [spec_l1Own.f]; omega)
  have HO1 := Aside0.mk (show spec_l1Own.f l1 = some l1 from by simp [spec_l1Own.f]; omega)
  clear h hr0 hc0 hr1 hc1 hk
  go_enter Try.func139, Try.ntmps139
  go_wp2_with (go_at_call 159; refine (spec_plEmpty.calls (l0.length + 1) (l0.length : Int) _ w HE.out).mono ?_; rintro e w1 ⟨v, rfl, hS, hB⟩; apply StopI)
  have O5 := Aside0.mk (OwnSS.new hS (Below.refl w.heap.size w))
  have HB := Aside0.mk hB
  clear hS hB
  obtain ⟨A, c, e_, hle⟩ := O5.out.reads
  subst e_
  obtain ⟨n, hn⟩ : ∃ n, (impl_square.tab (fun _ _ => 0) l0.length l0.length).length = n := ⟨_, rfl⟩
  rw [hn] at O5 hle ⊢
  have HN := Aside0.mk hn
  clear hn
  unfold Stop
  go_wp2_with (refine (spec_l1Own.calls _ _ l0 l0 _ (Kd.C_below HR0.out HB.out) HC0.out HO0.out).mono ?_; rintro e w2 ⟨v0, rfl, ho, hb⟩; apply StopI)
  have O6 := Aside0.mk (OwnR.new ho HB.out)
  have n0_ := Aside0.mk (O5.out.step hb)
  have n1_ := Aside0.mk (below_step HB.out hb)
  have HZ0 := Aside0.mk HB.out.size
  have HZ1 := Aside0.mk hb.size
  clear O5 HB ho hb
  have O5 := n0_
  have HB := n1_
  clear n0_ n1_
  obtain ⟨Aa, ca, e_, hla⟩ := O6.out.reads
  subst e_
  unfold Stop
  go_wp2_with (refine (spec_l1Own.calls _ _ l1 l1 _ (Kd.C_below HR1.out HB.out) HC1.out HO1.out).mono ?_; rintro e w3 ⟨v1, rfl, ho, hb⟩; apply StopI)
  have O7 := Aside0.mk (OwnR.new ho HB.out)
  have n0_ := Aside0.mk (O5.out.step hb)
  have n1_ := Aside0.mk (below_step HB.out hb)
  have n2_ := Aside0.mk (O6.out.step hb)
  have HZ2 := Aside0.mk hb.size
  clear O5 O6 HB ho hb
  have O5 := n0_
  have HB := n1_
  have O6 := n2_
  clear n0_ n1_ n2_
  obtain ⟨Ab, cb, e_, hlb⟩ := O7.out.reads
  subst e_
  unfold Stop
  go_wp2
  go_loopg [8, 9, 10] k (fun gg s8 s9 _ W => ∃ (i j kk : Nat) (x y : List Int) (s : List (List Int)), s8 = .int .i64 (i : Int) ∧ s9 = .int .i64 (j : Int) ∧ kk ≤ gg ∧ Aside0 (impl_carry.go kk s x y i j = some r) ∧ Aside0 (x.length = l0.length) ∧ Aside0 (y.length = l1.length) ∧ Aside0 (OwnSS w W w.heap.size w1.heap.size (.slice A n c) s) ∧ Aside0 (OwnR (Kd.int .i64) 3 w W w1.heap.size w2.heap.size (.slice Aa l0.length ca) x) ∧ Aside0 (OwnR (Kd.int .i64) 3 w W w2.heap.size w3.heap.size (.slice Ab l1.length cb) y) ∧ Aside0 (Below w.heap.size w W))
  case atStart => exact ⟨0, 0, k, l0, l1, _, rfl, rfl, Nat.le_refl _, HG, ⟨rfl⟩, ⟨rfl⟩, O5, O6, O7, HB⟩
  case round =>
    clear O5 O6 O7 HB HG HR0 HR1 HE HO0 HO1
    obtain ⟨i, j, kk, x, y, s, rfl, rfl, hkg, HG, HX, HY, O5, O6, O7, HB⟩ := hrel
    cases kk with
    | zero => exact absurd HG.out (by simp [impl_carry.go])
    | succ kk =>
      have H := HG.out
      clear HG
      simp only [impl_carry.go] at H
      by_cases hc : i < x.length ∧ j < y.length
      · rw [if_pos hc] at H
        by_cases hs : i < s.length ∧ j < (s.getD i []).length
        · rw [if_pos hs] at H
          obtain ⟨hi, hj⟩ := hc
          obtain ⟨hsi, hsj⟩ := hs
          have hn0 : s.length = n := (Kd.S_reads' O5.out.s).1.symm
          have hil : i < l0.length := by rw [← HX.out]; exact hi
          have hjl : j < l1.length := by rw [← HY.out]; exact hj
          have hilz : (i : Int) < (l0.length : Int) := by omega
          have hjlz : (j : Int) < (l1.length : Int) := by omega
          have hiz : (0 : Int) ≤ (i : Int) := by omega
          have hjz : (0 : Int) ≤ (j : Int) := by omega
          obtain ⟨g0, e0⟩ := O6.out.form (by omega)
          obtain ⟨g1, e1⟩ := O7.out.form (by omega)
          subst e0
          subst e1
          have hb0 := O6.out.blk
          have hb1 := O7.out.blk
          obtain ⟨a, ha⟩ : ∃ a, x.getD i 0 = a := ⟨_, rfl⟩
          obtain ⟨b, hb⟩ : ∃ b, y.getD j 0 = b := ⟨_, rfl⟩
          obtain ⟨hx0, hfx0⟩ := O6.out.cell i hil a ha
          obtain ⟨hy0, hfy0⟩ := O7.out.cell j hjl b hb
          rw [ha, hb] at H
          obtain ⟨u, hu⟩ : ∃ u, mn a b = u := ⟨_, rfl⟩
          rw [hu] at H
          have hu_ : spec_l1Least.f a b = some u := by rw [← hu]; unfold spec_l1Least.f mn; by_cases h1 : a < b <;> by_cases h2 : b < a <;> simp [h1, h2] <;> omega
          obtain ⟨g, gi, ci, e2, h1, h2, h3, h4, h5, h7⟩ := O5.out.put i j hsi hsj
          subst e2
          have hinz : (i : Int) < (n : Int) := by omega
          have hjnz : (j : Int) < ((s.getD i []).length : Int) := by omega
          obtain ⟨t, ht⟩ : ∃ t, (s.getD i []).getD j 0 = t := ⟨_, rfl⟩
          obtain ⟨m, hm⟩ : ∃ m, (s.getD i []).length = m := ⟨_, rfl⟩
          rw [ht] at h2
          rw [hm] at h1 hjnz
          have HP := Aside0.mk (show OwnSS w (wr.setCell ⟨gi, j, none⟩ (.int .i64 (wrap64 (t + u)))) w.heap.size w1.heap.size (.slice (some ⟨g, 0, none⟩) n c) (impl_carry.put s i j u) from by unfold impl_carry.put; rw [ht]; exact h7 _)
          have HA := Aside0.mk ha
          have HBb := Aside0.mk hb
          have HH := Aside0.mk H
          have HB0 := Aside0.mk hb0
          have HB1 := Aside0.mk hb1
          have HGI := Aside0.mk (And.intro h4 h5)
          have HU := Aside0.mk hu_
          clear ha hb hu hu_ H hb0 hb1 hi hj h4 h5 h7 ht hm hsi hsj hn0
          by_cases hz : wrap64 (a - u) = 0
          all_goals
            have HH1 := HH.out
            first | rw [if_pos hz] at HH1 | rw [if_neg hz] at HH1
            have HH2 := Aside0.mk HH1
            have HZ_ := Aside0.mk hz
            clear hz HH1 HH
            go_wp2_with fail
            go_quiet (first | (go_at_call 152; (refine (spec_l1Least.calls a b u _ HU.out).mono ?_); rintro e w' ⟨rfl, ⟨nd, rfl⟩⟩; (try first | exact ⟨rfl, _, World.drewN_drewN _ _ _⟩ | exact ⟨rfl, _, Eq.trans (World.drewN_drewN _ _ _) (congrArg (World.drewN _) (Nat.add_assoc _ _ _))⟩)))
            go_wp2_with ((with_reducible refine gate_store (t := 3) (p := 46) rfl ?_); refine store_event (t := 3) (p := 46) (v := ?vo_w5) (w1 := (wr.drewN nq).setCell ⟨gi, j, none⟩ (.int .i64 (wrap64 (t + u)))) ?hg ?ho ?hn ?hr ?_; (case ho => rfl); (case hg => rfl); (case hn => rfl); (case hr => first | (go_simp; done) | (go_simp; rfl)); intro w5 hw; apply StopI)
            have n0_ := Aside0.mk (by rw [hw]; exact HP.out.step (pw_below_drewN (Below.refl _ _) nq) : OwnSS w w5 w.heap.size w1.heap.size (.slice (some ⟨g, 0, none⟩) n c) (impl_carry.put s i j u))
            have n1_ := Aside0.mk (by rw [hw]; exact (O6.out.step (pw_below_drewN (Below.refl _ _) nq)).far (by have := HGI.out; have := HB0.out; have := HB1.out; have := HZ0.out; have := HZ1.out; have := HZ2.out; simp only []; omega) _ : OwnR (Kd.int .i64) 3 w w5 w1.heap.size w2.heap.size (.slice (some ⟨g0, 0, none⟩) l0.length ca) x)
            have n2_ := Aside0.mk (by rw [hw]; exact (O7.out.step (pw_below_drewN (Below.refl _ _) nq)).far (by have := HGI.out; have := HB0.out; have := HB1.out; have := HZ0.out; have := HZ1.out; have := HZ2.out; simp only []; omega) _ : OwnR (Kd.int .i64) 3 w w5 w2.heap.size w3.heap.size (.slice (some ⟨g1, 0, none⟩) l1.length cb) y)
            have n3_ := Aside0.mk (by rw [hw]; exact below_set (pw_below_drewN HB.out nq) HGI.out.1 : Below w.heap.size w w5)
            clear O5 O6 O7 HB hw
            have O5 := n0_
            have O6 := n1_
            have O7 := n2_
            have HB := n3_
            clear n0_ n1_ n2_ n3_
            obtain ⟨hx5, hfx5⟩ := O6.out.cell i hil a HA.out
            unfold Stop
            go_wp2_with ((with_reducible refine gate_store (t := 3) (p := 53) rfl ?_); refine store_event (t := 3) (p := 53) (v := ?vo_w6) (w1 := w5.setCell ⟨g0, i, none⟩ (.int .i64 (wrap64 (a - u)))) ?hg ?ho ?hn ?hr ?_; (case ho => rfl); (case hg => rfl); (case hn => rfl); (case hr => first | (go_simp; done) | (go_simp; rfl)); intro w6 hw; apply StopI)
            have n0_ := Aside0.mk (by rw [hw]; exact O5.out.far (by have := HGI.out; have := HB0.out; have := HB1.out; have := HZ0.out; have := HZ1.out; have := HZ2.out; simp only []; omega) _ : OwnSS w w6 w.heap.size w1.heap.size (.slice (some ⟨g, 0, none⟩) n c) (impl_carry.put s i j u))
            have n1_ := Aside0.mk (by rw [hw]; exact O6.out.put i (wrap64 (a - u)) : OwnR (Kd.int .i64) 3 w w6 w1.heap.size w2.heap.size (.slice (some ⟨g0, 0, none⟩) l0.length ca) (x.set i (wrap64 (a - u))))
            have n2_ := Aside0.mk (by rw [hw]; exact O7.out.far (by have := HGI.out; have := HB0.out; have := HB1.out; have := HZ0.out; have := HZ1.out; have := HZ2.out; simp only []; omega) _ : OwnR (Kd.int .i64) 3 w w6 w2.heap.size w3.heap.size (.slice (some ⟨g1, 0, none⟩) l1.length cb) y)
            have n3_ := Aside0.mk (by rw [hw]; exact below_set HB.out (Nat.le_trans HZ0.out HB0.out.1) : Below w.heap.size w w6)
            clear hx5 hfx5
            clear O5 O6 O7 HB hw
            have O5 := n0_
            have O6 := n1_
            have O7 := n2_
            have HB := n3_
            clear n0_ n1_ n2_ n3_
            obtain ⟨hy6, hfy6⟩ := O7.out.cell j hjl b HBb.out
            unfold Stop
            go_wp2_with ((with_reducible refine gate_store (t := 3) (p := 60) rfl ?_); refine store_event (t := 3) (p := 60) (v := ?vo_w7) (w1 := w6.setCell ⟨g1, j, none⟩ (.int .i64 (wrap64 (b - u)))) ?hg ?ho ?hn ?hr ?_; (case ho => rfl); (case hg => rfl); (case hn => rfl); (case hr => first | (go_simp; done) | (go_simp; rfl)); intro w7 hw; apply StopI)
            have n0_ := Aside0.mk (by rw [hw]; exact O5.out.far (by have := HGI.out; have := HB0.out; have := HB1.out; have := HZ0.out; have := HZ1.out; have := HZ2.out; simp only []; omega) _ : OwnSS w w7 w.heap.size w1.heap.size (.slice (some ⟨g, 0, none⟩) n c) (impl_carry.put s i j u))
            have n1_ := Aside0.mk (by rw [hw]; exact O6.out.far (by have := HGI.out; have := HB0.out; have := HB1.out; have := HZ0.out; have := HZ1.out; have := HZ2.out; simp only []; omega) _ : OwnR (Kd.int .i64) 3 w w7 w1.heap.size w2.heap.size (.slice (some ⟨g0, 0, none⟩) l0.length ca) (x.set i (wrap64 (a - u))))
            have n2_ := Aside0.mk (by rw [hw]; exact O7.out.put j (wrap64 (b - u)) : OwnR (Kd.int .i64) 3 w w7 w2.heap.size w3.heap.size (.slice (some ⟨g1, 0, none⟩) l1.length cb) (y.set j (wrap64 (b - u))))
            have n3_ := Aside0.mk (by rw [hw]; exact below_set HB.out (Nat.le_trans HZ0.out (Nat.le_trans HZ1.out HB1.out.1)) : Below w.heap.size w w7)
            clear hy6 hfy6
            clear O5 O6 O7 HB hw
            have O5 := n0_
            have O6 := n1_
            have O7 := n2_
            have HB := n3_
            clear n0_ n1_ n2_ n3_
            obtain ⟨hx7, hfx7⟩ := O6.out.cell i hil (wrap64 (a - u)) (by rw [List.getD_eq_getElem?_getD, List.getElem?_set_self (by have := HX.out; omega)]; rfl)
            have hz := HZ_.out
            unfold Stop
            go_wp2_with fail
          · go_roundg kk
            case measure => omega
            case rel => exact ⟨i + 1, j, kk, _, _, _, by go_num, rfl, Nat.le_refl _, HH2, ⟨by rw [List.length_set]; exact HX.out⟩, ⟨by rw [List.length_set]; exact HY.out⟩, O5, O6, O7, HB⟩
          · go_roundg kk
            case measure => omega
            case rel => exact ⟨i, j + 1, kk, _, _, _, rfl, by go_num, Nat.le_refl _, HH2, ⟨by rw [List.length_set]; exact HX.out⟩, ⟨by rw [List.length_set]; exact HY.out⟩, O5, O6, O7, HB⟩
        · rw [if_neg hs] at H
          cases H
      · rw [if_neg hc] at H
        obtain rfl := Option.some.inj H
        have hcz : (i : Int) < (l0.length : Int) → ¬ (j : Int) < (l1.length : Int) := by have := HX.out; have := HY.out; omega
        by_cases h1z : (i : Int) < (l0.length : Int)
        · have h2z := hcz h1z
          clear hc hcz
          go_wp2
          go_ret
          exact ⟨_, rfl, Kd.S_mono O5.out.s (fun _ _ => trivial), HB.out⟩
        · clear hc hcz
          go_wp2
          go_ret
          exact ⟨_, rfl, Kd.S_mono O5.out.s (fun _ _ => trivial), HB.out⟩

end Go.Proofs.Ytllnieknogficaa.K
namespace Go.Proofs.Ytllnieknogficaa.K
open Go.RowKit Go.Proofs.YtllnieknogficaaW.PrintWords Go.Proofs.YtllnieknogficaaW.PrintLast Go.Proofs.YtllnieknogficaaW.PrintMore
attribute [local go_sem] max2_int min2_int max_two min_two max_three min_three max_four min_four   -- for this text's walks alone
set_option linter.unusedVariables false
set_option linter.unusedSimpArgs false
theorem put_shape (s : List (List Int)) (n i j : Nat) (u : Int) (hs : s.length = n) (hr : ∀ r ∈ s, r.length = n) : (impl_carry.put s i j u).length = n ∧ ∀ r ∈ impl_carry.put s i j u, r.length = n := by
  refine ⟨by simp [impl_carry.put, hs], fun r h => ?_⟩
  unfold impl_carry.put at h
  by_cases hi : i < s.length
  · rcases List.mem_or_eq_of_mem_set h with h | h
    · exact hr r h
    · subst h
      rw [List.length_set, List.getD_eq_getElem?_getD, List.getElem?_eq_getElem hi]
      exact hr _ (List.getElem_mem hi)
  · rw [List.set_eq_of_length_le (by omega)] at h
    exact hr r h
theorem go_some (n : Nat) : ∀ k (s : List (List Int)) (x y : List Int) (i j : Nat), x.length = n → y.length = n → s.length = n → (∀ r ∈ s, r.length = n) → (n - i) + (n - j) < k →
    ∃ R, impl_carry.go k s x y i j = some R ∧ R.length = n ∧ ∀ r ∈ R, r.length = n := by
  intro k
  induction k with
  | zero => intro s x y i j _ _ _ _ h; omega
  | succ k ih =>
    intro s x y i j hx hy hs hr hk
    simp only [impl_carry.go]
    by_cases hc : i < x.length ∧ j < y.length
    · rw [if_pos hc]
      have hrow : (s.getD i []).length = n := by
        rw [List.getD_eq_getElem?_getD, List.getElem?_eq_getElem (by omega)]
        exact hr _ (List.getElem_mem (by omega))
      rw [if_pos (by omega)]
      obtain ⟨p1, p2⟩ := put_shape s n i j (mn (x.getD i 0) (y.getD j 0)) hs hr
      split
      · exact ih _ _ _ _ _ (by simpa using hx) (by simpa using hy) p1 p2 (by omega)
      · exact ih _ _ _ _ _ (by simpa using hx) (by simpa using hy) p1 p2 (by omega)
    · rw [if_neg hc]
      exact ⟨s, rfl, hs, hr⟩
/-- The monotone plan of two lists of one length. -/
def monoP (a b : List Int) : List (List Int) := (impl_carry.go (a.length + b.length + 1) (impl_square.tab (fun _ _ => 0) a.length a.length) a b 0 0).getD []
theorem mono_some (a b : List Int) (h : a.length = b.length) : impl_carry.go (a.length + b.length + 1) (impl_square.tab (fun _ _ => 0) a.length a.length) a b 0 0 = some (monoP a b) ∧ (monoP a b).length = a.length ∧ ∀ r ∈ monoP a b, r.length = a.length := by
  obtain ⟨R, h1, h2, h3⟩ := go_some a.length (a.length + b.length + 1) (impl_square.tab (fun _ _ => 0) a.length a.length) a b 0 0 rfl h.symm (by simp [impl_square.tab]) (by simp [impl_square.tab]) (by omega)
  have : monoP a b = R := by unfold monoP; rw [h1]; rfl
  rw [this]
  exact ⟨h1, h2, h3⟩
theorem implMono (a b : List Int) (h : a.length = b.length) (hl : a.length ≤ 1048576) : impl_monotone.f a b = some (monoP a b) := by
  unfold impl_monotone.f
  rw [if_pos (by omega)]
  exact (mono_some a b h).1
theorem specMono (a b : List Int) (h : a.length = b.length) (hl : a.length ≤ 1048576) : spec_plMonotone.f a b = some (monoP a b) := by
  unfold spec_plMonotone.f
  rw [if_pos (by omega)]
  exact (mono_some a b h).1
theorem monoP_small (a b : List Int) (h : fitB a b = true) : (monoP a b).length ≤ 1048576 ∧ (∀ r ∈ monoP a b, r.length ≤ 1048576) ∧ laws_markIntSS.tot (monoP a b) ≤ 1048576 := by
  obtain ⟨h1, h2, h3, _⟩ := (fitB_iff a b).1 h
  obtain ⟨_, h4, _⟩ := (listB_iff a).1 h1
  obtain ⟨_, g2, g3⟩ := mono_some a b h3
  have ht := tot_le_mul a.length (monoP a b) (fun r hr => by rw [g3 r hr]; exact Nat.le_refl _)
  rw [g2] at ht
  have := Nat.mul_le_mul h4 h4
  exact ⟨by omega, fun r hr => by rw [g3 r hr]; omega, by omega⟩
def cellAt (l : List (List Int)) (i j : Nat) : Int := (l.getD i []).getD j 0
theorem put_cell (s : List (List Int)) (i j : Nat) (u : Int) (hi : i < s.length) (hj : j < (s.getD i []).length) (p q : Nat) : cellAt (impl_carry.put s i j u) p q = if p = i ∧ q = j then wrap64 (cellAt s i j + u) else cellAt s p q := by
  have e1 : (impl_carry.put s i j u).getD p [] = if p = i then (s.getD i []).set j (wrap64 (cellAt s i j + u)) else s.getD p [] := by
    unfold impl_carry.put cellAt
    by_cases hp : p = i
    · subst hp
      rw [if_pos rfl, List.getD_eq_getElem?_getD, List.getElem?_set_self hi]; rfl
    · rw [if_neg hp, List.getD_eq_getElem?_getD, List.getElem?_set_ne (fun h => hp h.symm), ← List.getD_eq_getElem?_getD]
  show ((impl_carry.put s i j u).getD p []).getD q 0 = _
  rw [e1]
  by_cases hp : p = i
  · subst hp
    rw [if_pos rfl]
    by_cases hq : q = j
    · subst hq
      rw [if_pos ⟨rfl, rfl⟩, List.getD_eq_getElem?_getD, List.getElem?_set_self hj]; rfl
    · rw [if_neg (fun h => hq h.2), List.getD_eq_getElem?_getD, List.getElem?_set_ne (fun h => hq h.symm), ← List.getD_eq_getElem?_getD]
      rfl
  · rw [if_neg hp, if_neg (fun h => hp h.1)]
    rfl
theorem getD_set (l : List Int) (i : Nat) (v : Int) (hi : i < l.length) (q : Nat) : (l.set i v).getD q 0 = if q = i then v else l.getD q 0 := by
  by_cases hq : q = i
  · subst hq
    rw [if_pos rfl, List.getD_eq_getElem?_getD, List.getElem?_set_self hi]; rfl
  · rw [if_neg hq, List.getD_eq_getElem?_getD, List.getElem?_set_ne (fun h => hq h.symm), ← List.getD_eq_getElem?_getD]
theorem go_bound : ∀ k (s : List (List Int)) (x y : List Int) (i j : Nat) (R : List (List Int)), (∀ q, 0 ≤ x.getD q 0 ∧ x.getD q 0 ≤ 60) → (∀ q, 0 ≤ y.getD q 0 ∧ y.getD q 0 ≤ 60) → (∀ p q, 0 ≤ cellAt s p q ∧ cellAt s p q ≤ 60) → (∀ p q, i ≤ p → j ≤ q → cellAt s p q = 0) →
    impl_carry.go k s x y i j = some R → ∀ p q, 0 ≤ cellAt R p q ∧ cellAt R p q ≤ 60 := by
  intro k
  induction k with
  | zero => intro s x y i j R _ _ _ _ h; simp [impl_carry.go] at h
  | succ k ih =>
    intro s x y i j R hx hy hs hz h
    simp only [impl_carry.go] at h
    by_cases hc : i < x.length ∧ j < y.length
    · rw [if_pos hc] at h
      by_cases hb : i < s.length ∧ j < (s.getD i []).length
      · rw [if_pos hb] at h
        obtain ⟨u, hu⟩ : ∃ u, mn (x.getD i 0) (y.getD j 0) = u := ⟨_, rfl⟩
        rw [hu] at h
        have hxi := hx i
        have hyj := hy j
        have hu2 : 0 ≤ u ∧ u ≤ x.getD i 0 ∧ u ≤ y.getD j 0 ∧ (u = x.getD i 0 ∨ u = y.getD j 0) := by
          rw [← hu]; unfold mn
          by_cases h2 : y.getD j 0 < x.getD i 0
          · rw [if_pos h2]; omega
          · rw [if_neg h2]; omega
        have w1 : wrap64 (x.getD i 0 - u) = x.getD i 0 - u := wrap64_id (by omega) (by omega)
        have w2 : wrap64 (y.getD j 0 - u) = y.getD j 0 - u := wrap64_id (by omega) (by omega)
        have w3 : wrap64 (cellAt s i j + u) = u := by rw [hz i j (Nat.le_refl _) (Nat.le_refl _)]; rw [wrap64_id (by omega) (by omega)]; omega
        rw [w1, w2] at h
        have hx' : ∀ q, 0 ≤ (x.set i (x.getD i 0 - u)).getD q 0 ∧ (x.set i (x.getD i 0 - u)).getD q 0 ≤ 60 := fun q => by
          rw [getD_set x i _ hc.1]
          split
          · omega
          · exact hx q
        have hy' : ∀ q, 0 ≤ (y.set j (y.getD j 0 - u)).getD q 0 ∧ (y.set j (y.getD j 0 - u)).getD q 0 ≤ 60 := fun q => by
          rw [getD_set y j _ hc.2]
          split
          · omega
          · exact hy q
        have hs' : ∀ p q, 0 ≤ cellAt (impl_carry.put s i j u) p q ∧ cellAt (impl_carry.put s i j u) p q ≤ 60 := fun p q => by
          rw [put_cell s i j u hb.1 hb.2]
          split
          · rw [w3]; omega
          · exact hs p q
        by_cases hd : x.getD i 0 - u = 0
        · rw [if_pos hd] at h
          refine ih _ _ _ _ _ R hx' hy' hs' (fun p q hp hq => ?_) h
          rw [put_cell s i j u hb.1 hb.2, if_neg (by omega)]
          exact hz p q (by omega) hq
        · rw [if_neg hd] at h
          refine ih _ _ _ _ _ R hx' hy' hs' (fun p q hp hq => ?_) h
          rw [put_cell s i j u hb.1 hb.2, if_neg (by omega)]
          exact hz p q hp (by omega)
      · rw [if_neg hb] at h; cases h
    · rw [if_neg hc] at h
      obtain rfl := Option.some.inj h
      exact hs
theorem tab0_cell (n p q : Nat) : cellAt (impl_square.tab (fun _ _ => 0) n n) p q = 0 := by
  have e : impl_square.tab (fun _ _ => 0) n n = List.replicate n (List.replicate n 0) := by simp [impl_square.tab, List.map_const']
  rw [e]; unfold cellAt
  simp only [List.getD_eq_getElem?_getD, List.getElem?_replicate]
  split
  · simp only [Option.getD_some, List.getElem?_replicate]; split <;> rfl
  · rfl
theorem list_getD (a : List Int) (h : listB a = true) (q : Nat) : 0 ≤ a.getD q 0 ∧ a.getD q 0 ≤ 60 := by
  obtain ⟨_, _, h3⟩ := (listB_iff a).1 h
  rw [List.getD_eq_getElem?_getD]
  by_cases hq : q < a.length
  · rw [List.getElem?_eq_getElem hq]; exact h3 _ (List.getElem_mem hq)
  · rw [List.getElem?_eq_none (by omega)]; simp
theorem monoP_cells (a b : List Int) (h : fitB a b = true) (p q : Nat) : 0 ≤ cellAt (monoP a b) p q ∧ cellAt (monoP a b) p q ≤ 60 := by
  obtain ⟨h1, h2, h3, _⟩ := (fitB_iff a b).1 h
  exact go_bound _ _ a b 0 0 _ (list_getD a h1) (list_getD b h2) (fun p q => by rw [tab0_cell]; omega) (fun p q _ _ => tab0_cell _ p q) (mono_some a b h3).1 p q
end Go.Proofs.Ytllnieknogficaa.K
namespace Go.Proofs.Ytllnieknogficaa.K
open Go.RowKit Go.Proofs.YtllnieknogficaaW.PrintWords Go.Proofs.YtllnieknogficaaW.PrintLast Go.Proofs.YtllnieknogficaaW.PrintMore
attribute [local go_sem] max2_int min2_int max_two min_two max_three min_three max_four min_four   -- for this text's walks alone
set_option linter.unusedVariables false
set_option linter.unusedSimpArgs false

/-! ### impl_crossing: function 141 -/
mutual
def impl_crossing.l0 : Nat → List (List Int) → List (List Int) → Int → Int → Option (Int × Int × Int × Int × Bool)
  | 0, _, _, _, _ => none
  | k + 1, x0, x11, x12, x13 => if x13 < x12 then (if 0 ≤ x13 then (if x13 < (x11.length : Int) then (impl_crossing.l1 k x0 x13 x11 x12 x13 (rd_L2 x11 x13) ((rd_L2 x11 x13).length : Int) 0) else (none)) else (none)) else (some (0, 0, 0, 0, false))
def impl_crossing.l1 : Nat → List (List Int) → Int → List (List Int) → Int → Int → List Int → Int → Int → Option (Int × Int × Int × Int × Bool)
  | 0, _, _, _, _, _, _, _, _ => none
  | k + 1, x0, x5, x11, x12, x13, x18, x19, x20 => if x20 < x19 then (if 0 ≤ x20 then (if x20 < (x18.length : Int) then (if (rd x18 x20) = 0 then (impl_crossing.l1 k x0 x5 x11 x12 x13 x18 x19 (wrap64 (x20 + 1))) else (impl_crossing.l2 k x0 x5 x20 (wrap64 (x5 + 1)) x11 x12 x13 x18 x19 x20)) else (none)) else (none)) else (impl_crossing.l0 k x0 x11 x12 (wrap64 (x13 + 1)))
def impl_crossing.l2 : Nat → List (List Int) → Int → Int → Int → List (List Int) → Int → Int → List Int → Int → Int → Option (Int × Int × Int × Int × Bool)
  | 0, _, _, _, _, _, _, _, _, _, _ => none
  | k + 1, x0, x5, x7, x9, x11, x12, x13, x18, x19, x20 => if x9 < (x0.length : Int) then (impl_crossing.l3 k x0 x5 x7 x9 x11 x12 x13 x18 x19 x20 x7 0) else (impl_crossing.l1 k x0 x5 x11 x12 x13 x18 x19 (wrap64 (x20 + 1)))
def impl_crossing.l3 : Nat → List (List Int) → Int → Int → Int → List (List Int) → Int → Int → List Int → Int → Int → Int → Int → Option (Int × Int × Int × Int × Bool)
  | 0, _, _, _, _, _, _, _, _, _, _, _, _ => none
  | k + 1, x0, x5, x7, x9, x11, x12, x13, x18, x19, x20, x35, x36 => if x36 < x35 then (if 0 ≤ x9 then (if x9 < (x0.length : Int) then (if 0 ≤ x36 then (if x36 < ((rd_L2 x0 x9).length : Int) then (if (rd (rd_L2 x0 x9) x36) > 0 then (some (x5, x7, x9, x36, true)) else (impl_crossing.l3 k x0 x5 x7 x9 x11 x12 x13 x18 x19 x20 x35 (wrap64 (x36 + 1)))) else (none)) else (none)) else (none)) else (none)) else (impl_crossing.l2 k x0 x5 x7 (wrap64 (x9 + 1)) x11 x12 x13 x18 x19 x20)
end
def impl_crossing.f (k : Nat) (l0 : List (List Int)) : Option (Int × Int × Int × Int × Bool) := impl_crossing.l0 k l0 l0 (l0.length : Int) 0
theorem impl_crossing.mono_l : ∀ k, (∀ y0 y1 y2 y3, LeO (impl_crossing.l0 k y0 y1 y2 y3) (impl_crossing.l0 (k + 1) y0 y1 y2 y3)) ∧ (∀ y0 y1 y2 y3 y4 y5 y6 y7, LeO (impl_crossing.l1 k y0 y1 y2 y3 y4 y5 y6 y7) (impl_crossing.l1 (k + 1) y0 y1 y2 y3 y4 y5 y6 y7)) ∧ (∀ y0 y1 y2 y3 y4 y5 y6 y7 y8 y9, LeO (impl_crossing.l2 k y0 y1 y2 y3 y4 y5 y6 y7 y8 y9) (impl_crossing.l2 (k + 1) y0 y1 y2 y3 y4 y5 y6 y7 y8 y9)) ∧ (∀ y0 y1 y2 y3 y4 y5 y6 y7 y8 y9 y10 y11, LeO (impl_crossing.l3 k y0 y1 y2 y3 y4 y5 y6 y7 y8 y9 y10 y11) (impl_crossing.l3 (k + 1) y0 y1 y2 y3 y4 y5 y6 y7 y8 y9 y10 y11))
  | 0 => ⟨fun _ _ _ _ r h => by simp [impl_crossing.l0] at h, fun _ _ _ _ _ _ _ _ r h => by simp [impl_crossing.l1] at h, fun _ _ _ _ _ _ _ _ _ _ r h => by simp [impl_crossing.l2] at h, fun _ _ _ _ _ _ _ _ _ _ _ _ r h => by simp [impl_crossing.l3] at h⟩
  | k + 1 => by
    obtain ⟨ih0, ih1, ih2, ih3⟩ := impl_crossing.mono_l k
    refine ⟨?_, ?_, ?_, ?_⟩
    · intro y0 y1 y2 y3
      unfold impl_crossing.l0
      repeat' first
      | (with_reducible exact ih0 _ _ _ _)
      | (with_reducible exact ih1 _ _ _ _ _ _ _ _)
      | (with_reducible exact ih2 _ _ _ _ _ _ _ _ _ _)
      | (with_reducible exact ih3 _ _ _ _ _ _ _ _ _ _ _ _)
      | (with_reducible exact LeO.refl _)
      | (with_reducible exact LeO.none _)
      | (with_reducible refine LeO.ite ?_ ?_)
      | (with_reducible refine LeO.bind ?_ (fun _ => ?_))
      | exact ih0 _ _ _ _
      | exact ih1 _ _ _ _ _ _ _ _
      | exact ih2 _ _ _ _ _ _ _ _ _ _
      | exact ih3 _ _ _ _ _ _ _ _ _ _ _ _
      | exact LeO.none _
      | refine LeO.ite ?_ ?_
      | refine LeO.bind ?_ (fun _ => ?_)
    · intro y0 y1 y2 y3 y4 y5 y6 y7
      unfold impl_crossing.l1
      repeat' first
      | (with_reducible exact ih0 _ _ _ _)
      | (with_reducible exact ih1 _ _ _ _ _ _ _ _)
      | (with_reducible exact ih2 _ _ _ _ _ _ _ _ _ _)
      | (with_reducible exact ih3 _ _ _ _ _ _ _ _ _ _ _ _)
      | (with_reducible exact LeO.refl _)
      | (with_reducible exact LeO.none _)
      | (with_reducible refine LeO.ite ?_ ?_)
      | (with_reducible refine LeO.bind ?_ (fun _ => ?_))
      | exact ih0 _ _ _ _
      | exact ih1 _ _ _ _ _ _ _ _
      | exact ih2 _ _ _ _ _ _ _ _ _ _
      | exact ih3 _ _ _ _ _ _ _ _ _ _ _ _
      | exact LeO.none _
      | refine LeO.ite ?_ ?_
      | refine LeO.bind ?_ (fun _ => ?_)
    · intro y0 y1 y2 y3 y4 y5 y6 y7 y8 y9
      unfold impl_crossing.l2
      repeat' first
      | (with_reducible exact ih0 _ _ _ _)
      | (with_reducible exact ih1 _ _ _ _ _ _ _ _)
      | (with_reducible exact ih2 _ _ _ _ _ _ _ _ _ _)
      | (with_reducible exact ih3 _ _ _ _ _ _ _ _ _ _ _ _)
      | (with_reducible exact LeO.refl _)
      | (with_reducible exact LeO.none _)
      | (with_reducible refine LeO.ite ?_ ?_)
      | (with_reducible refine LeO.bind ?_ (fun _ => ?_))
      | exact ih0 _ _ _ _
      | exact ih1 _ _ _ _ _ _ _ _
      | exact ih2 _ _ _ _ _ _ _ _ _ _
      | exact ih3 _ _ _ _ _ _ _ _ _ _ _ _
      | exact LeO.none _
      | refine LeO.ite ?_ ?_
      | refine LeO.bind ?_ (fun _ => ?_)
    · intro y0 y1 y2 y3 y4 y5 y6 y7 y8 y9 y10 y11
      unfold impl_crossing.l3
      repeat' first
      | (with_reducible exact ih0 _ _ _ _)
      | (with_reducible exact ih1 _ _ _ _ _ _ _ _)
      | (with_reducible exact ih2 _ _ _ _ _ _ _ _ _ _)
      | (with_reducible exact ih3 _ _ _ _ _ _ _ _ _ _ _ _)
      | (with_reducible exact LeO.refl _)
      | (with_reducible exact LeO.none _)
      | (with_reducible refine LeO.ite ?_ ?_)
      | (with_reducible refine LeO.bind ?_ (fun _ => ?_))
      | exact ih0 _ _ _ _
      | exact ih1 _ _ _ _ _ _ _ _
      | exact ih2 _ _ _ _ _ _ _ _ _ _
      | exact ih3 _ _ _ _ _ _ _ _ _ _ _ _
      | exact LeO.none _
      | refine LeO.ite ?_ ?_
      | refine LeO.bind ?_ (fun _ => ?_)
theorem impl_crossing.mono : ∀ a0 k, LeO (impl_crossing.f k a0) (impl_crossing.f (k + 1) a0) := by
  intro a0 k
  obtain ⟨ih0, ih1, ih2, ih3⟩ := impl_crossing.mono_l k
  unfold impl_crossing.f
  repeat' first
      | (with_reducible exact ih0 _ _ _ _)
      | (with_reducible exact ih1 _ _ _ _ _ _ _ _)
      | (with_reducible exact ih2 _ _ _ _ _ _ _ _ _ _)
      | (with_reducible exact ih3 _ _ _ _ _ _ _ _ _ _ _ _)
      | (with_reducible exact LeO.refl _)
      | (with_reducible exact LeO.none _)
      | (with_reducible refine LeO.ite ?_ ?_)
      | (with_reducible refine LeO.bind ?_ (fun _ => ?_))
      | exact ih0 _ _ _ _
      | exact ih1 _ _ _ _ _ _ _ _
      | exact ih2 _ _ _ _ _ _ _ _ _ _
      | exact ih3 _ _ _ _ _ _ _ _ _ _ _ _
      | exact LeO.none _
      | refine LeO.ite ?_ ?_
      | refine LeO.bind ?_ (fun _ => ?_)
set_option maxHeartbeats 8000000 in
set_option maxRecDepth 100000 in
theorem impl_crossing.calls (k : Nat) (A0 : Option Addr) (c0 : Nat) (l0 : List (List Int)) (r1 : Int) (r2 : Int) (r3 : Int) (r4 : Int) (r5 : Bool) (w : World) (hr0 : Kd.C (Kd.slice 3 (Kd.int .i64)) w A0 l0.length l0) (hc0 : l0.length ≤ c0) (h : impl_crossing.f k l0 = some (r1, r2, r3, r4, r5)) :
    Calls Try.prog 141 #[.slice A0 l0.length c0] w fun e w' => e = .returned (.tuple #[.agg #[.int .i64 r1, .int .i64 r2], .agg #[.int .i64 r3, .int .i64 r4], .bool r5]) ∧ Below w.heap.size w w' := by
  have hu70 := Try.underlying70
  have HR0 := Aside0.mk hr0
  have HC0 := Aside0.mk hc0
  clear hr0 hc0
  have HB := Aside0.mk (Below.refl w.heap.size w)
  have H : (impl_crossing.l0 k l0 l0 (l0.length : Int) 0) = some (r1, r2, r3, r4, r5) := h
  clear h
  have H' := Aside0.mk H
  clear H
  go_enter Try.func141, Try.ntmps141
  go_wp2_with (first | ((with_reducible refine gate_dst (N := 2) rfl ?_); refine box_event ?hg (N := 2) ?hd (cs := #[.int .i64 0, .int .i64 0]) (t := 70) ?hr ?_; (case hd => rfl); (case hg => rfl); (case hr => first | (go_simp; done) | (go_simp; rfl)); intro gb608 hg w2 hbox hb; have n0_ := Aside0.mk (below_step (by repeat (first | (with_reducible first | exact HB.out | apply below_alloc | apply pw_below_drewN | apply below_drew1) | exact HB.out)) hb); have n1_ := Aside0.mk (hbox); have n2_ := Aside0.mk ((by rw [hg]; exact (below_size (by repeat (first | (with_reducible first | exact HB.out | apply below_alloc | apply pw_below_drewN | apply below_drew1) | exact HB.out))) : w.heap.size ≤ gb608)); have n3_ := Aside0.mk ((by rw [hg]; exact (below_size (by repeat (first | (with_reducible first | exact HB.out | apply below_alloc | apply pw_below_drewN | apply below_drew1) | exact HB.out))) : w.heap.size ≤ gb608)); clear HB; have HB := n0_; have BK608 := n1_; have GW608 := n2_; have GE608 := n3_; clear n0_ n1_ n2_ n3_; clear hb hbox hg) | ((with_reducible refine gate_dst (N := 3) rfl ?_); refine box_event ?hg (N := 3) ?hd (cs := #[.int .i64 0, .int .i64 0]) (t := 70) ?hr ?_; (case hd => rfl); (case hg => rfl); (case hr => first | (go_simp; done) | (go_simp; rfl)); intro gb609 hg w3 hbox hb; have n0_ := Aside0.mk (blk_below (g := gb608) (o := .cells #[.int .i64 0, .int .i64 0] 70 (0, 0)) (by (with_reducible repeat (first | refine blk_drewN ?_ _ | refine blk_drew ?_ | refine blk_alloc ?_ _)); exact BK608.out) hb); have n1_ := Aside0.mk (below_step (by repeat (first | (with_reducible first | exact HB.out | apply below_alloc | apply pw_below_drewN | apply below_drew1 | refine below_set ?_ GE608.out) | exact HB.out)) hb); have n2_ := Aside0.mk (hbox); have n3_ := Aside0.mk ((by rw [hg]; exact (below_size (by repeat (first | (with_reducible first | exact HB.out | apply below_alloc | apply pw_below_drewN | apply below_drew1 | refine below_set ?_ GE608.out) | exact HB.out))) : w.heap.size ≤ gb609)); have n4_ := Aside0.mk ((by rw [hg]; exact (below_size (by repeat (first | (with_reducible first | exact HB.out | apply below_alloc | apply pw_below_drewN | apply below_drew1 | refine below_set ?_ GE608.out) | exact HB.out))) : w.heap.size ≤ gb609)); have n5_ := Aside0.mk ((by rw [hg]; exact Nat.ne_of_lt (blk_lt (g := gb608) (o := .cells #[.int .i64 0, .int .i64 0] 70 (0, 0)) (by (with_reducible repeat (first | refine blk_drewN ?_ _ | refine blk_drew ?_ | refine blk_alloc ?_ _)); exact BK608.out)) : gb608 ≠ gb609)); have n6_ := Aside0.mk ((by rw [hg]; exact Nat.ne_of_gt (blk_lt (g := gb608) (o := .cells #[.int .i64 0, .int .i64 0] 70 (0, 0)) (by (with_reducible repeat (first | refine blk_drewN ?_ _ | refine blk_drew ?_ | refine blk_alloc ?_ _)); exact BK608.out)) : gb609 ≠ gb608)); clear BK608; clear HB; have BK608 := n0_; have HB := n1_; have BK609 := n2_; have GW609 := n3_; have GE609 := n4_; have NB608_609 := n5_; have NB609_608 := n6_; clear n0_ n1_ n2_ n3_ n4_ n5_ n6_; clear hb hbox hg))
  go_loopg [13] k (fun kq v13 w' => ∃ (x13_1 : Int) (x609000_1 : Int) (x609001_1 : Int) (x610000_1 : Int) (x610001_1 : Int), v13 = .int .i64 x13_1 ∧ Aside0 (impl_crossing.l0 kq l0 l0 (l0.length : Int) x13_1 = some (r1, r2, r3, r4, r5)) ∧ Aside0 (kq ≤ k) ∧ Aside0 (w'.heap[gb608]? = some (.cells #[.int .i64 x609000_1, .int .i64 x609001_1] 70 (0, 0))) ∧ Aside0 (w'.heap[gb609]? = some (.cells #[.int .i64 x610000_1, .int .i64 x610001_1] 70 (0, 0))) ∧ Aside0 (Below w.heap.size w w'))
  case atStart => exact ⟨(0), (0), (0), (0), (0), (by first | rfl | (simp; done) | (simp [*]; done)), H', ⟨Nat.le_refl _⟩, ⟨by (with_reducible repeat (first | refine blk_drewN ?_ _ | refine blk_drew ?_ | refine blk_alloc ?_ _)); exact BK608.out⟩, ⟨by (with_reducible repeat (first | refine blk_drewN ?_ _ | refine blk_drew ?_ | refine blk_alloc ?_ _)); exact BK609.out⟩, ⟨by repeat (first | (with_reducible first | exact HB.out | apply below_alloc | apply pw_below_drewN | apply below_drew1 | refine below_set ?_ GE608.out | refine below_set ?_ GE609.out) | exact HB.out)⟩⟩
  case round =>
    clear H'
    try clear c1
    try clear p2
    obtain ⟨x13_1, x609000_1, x609001_1, x610000_1, x610001_1, rfl, HA, HK1, BK608, BK609, HB⟩ := hrel
    cases gk with
    | zero => exact absurd HA.out (by simp [impl_crossing.l0])
    | succ k1 =>
      have H := HA.out
      clear HA
      simp only [impl_crossing.l0] at H
      by_cases c4 : x13_1 < (l0.length : Int)
      · rw [if_pos c4] at H
        have c4b0 : decide (x13_1 < (l0.length : Int)) = true := decide_eq_true c4
        clear c4
        by_cases c5 : 0 ≤ x13_1
        · rw [if_pos c5] at H
          have c5b0 : decide (0 ≤ x13_1) = true := decide_eq_true c5
          clear c5
          by_cases c6 : x13_1 < (l0.length : Int)
          · rw [if_pos c6] at H
            have c6b0 : decide (x13_1 < (l0.length : Int)) = true := decide_eq_true c6
            clear c6
            have H' := Aside0.mk H
            clear H
            have p610 : 0 ≤ (x13_1 : Int) := of_decide_eq_true (by first | (with_reducible assumption) | assumption)
            have q610 : x13_1 < (l0.length : Int) := of_decide_eq_true (by first | (with_reducible assumption) | assumption)
            obtain ⟨ad610, A610_0, c610_0, e610, hx610_0, hl610_0, hi610_0⟩ := at_L2 HR0.out x13_1 p610 q610
            cases e610
            replace hx610_0 := (HB.out.cell (World.block_lt_of_cell? w _ hx610_0)).trans hx610_0
            have HR610_0 := Aside0.mk hi610_0
            have HC610_0 := Aside0.mk hl610_0
            clear hi610_0 hl610_0
            replace p610 := eq_true p610
            replace q610 := eq_true q610
            go_wp2
            go_loopg [20] k1 (fun kq v20 w' => ∃ (x20_2 : Int) (x609000_2 : Int) (x609001_2 : Int) (x610000_2 : Int) (x610001_2 : Int), v20 = .int .i64 x20_2 ∧ Aside0 (impl_crossing.l1 kq l0 x13_1 l0 (l0.length : Int) x13_1 (rd_L2 l0 x13_1) ((rd_L2 l0 x13_1).length : Int) x20_2 = some (r1, r2, r3, r4, r5)) ∧ Aside0 (kq ≤ k1) ∧ Aside0 (w'.heap[gb608]? = some (.cells #[.int .i64 x609000_2, .int .i64 x609001_2] 70 (0, 0))) ∧ Aside0 (w'.heap[gb609]? = some (.cells #[.int .i64 x610000_2, .int .i64 x610001_2] 70 (0, 0))) ∧ Aside0 (Below w.heap.size w w'))
            case atStart => exact ⟨(0), (x609000_1), (x609001_1), (x610000_1), (x610001_1), (by first | rfl | (simp; done) | (simp [*]; done)), H', ⟨Nat.le_refl _⟩, ⟨by (with_reducible repeat (first | refine blk_drewN ?_ _ | refine blk_drew ?_ | refine blk_alloc ?_ _)); exact BK608.out⟩, ⟨by (with_reducible repeat (first | refine blk_drewN ?_ _ | refine blk_drew ?_ | refine blk_alloc ?_ _)); exact BK609.out⟩, ⟨by repeat (first | (with_reducible first | exact HB.out | apply below_alloc | apply pw_below_drewN | apply below_drew1 | refine below_set ?_ GE608.out | refine below_set ?_ GE609.out) | exact HB.out)⟩⟩
            case round =>
              clear H'
              try clear c1
              try clear p2
              try clear c4
              try clear c4b0
              try clear c5
              try clear c5b0
              try clear c6
              try clear c6b0
              try clear p6
              try clear q6
              try clear hx6
              try clear hx610_0
              try clear p2
              try clear p610
              try clear q610
              obtain ⟨x20_2, x609000_2, x609001_2, x610000_2, x610001_2, rfl, HA, HK2, BK608, BK609, HB⟩ := hrel
              cases gk with
              | zero => exact absurd HA.out (by simp [impl_crossing.l1])
              | succ k2 =>
                have H := HA.out
                clear HA
                simp only [impl_crossing.l1] at H
                by_cases c7 : x20_2 < ((rd_L2 l0 x13_1).length : Int)
                · rw [if_pos c7] at H
                  have c7b0 : decide (x20_2 < ((rd_L2 l0 x13_1).length : Int)) = true := decide_eq_true c7
                  clear c7
                  by_cases c8 : 0 ≤ x20_2
                  · rw [if_pos c8] at H
                    have c8b0 : decide (0 ≤ x20_2) = true := decide_eq_true c8
                    clear c8
                    by_cases c9 : x20_2 < ((rd_L2 l0 x13_1).length : Int)
                    · rw [if_pos c9] at H
                      have c9b0 : decide (x20_2 < ((rd_L2 l0 x13_1).length : Int)) = true := decide_eq_true c9
                      clear c9
                      by_cases c10 : (rd (rd_L2 l0 x13_1) x20_2) = 0
                      · rw [if_pos c10] at H
                        have c10b0 : ((rd (rd_L2 l0 x13_1) x20_2) == 0) = true := beq_iff_eq.mpr c10
                        have c10b1 : ((rd (rd_L2 l0 x13_1) x20_2) != 0) = false := bne_eq_false_iff_eq.mpr c10
                        clear c10
                        have H' := Aside0.mk H
                        clear H
                        have p611 : 0 ≤ (x20_2 : Int) := of_decide_eq_true (by first | (with_reducible assumption) | assumption)
                        have q611 : x20_2 < ((rd_L2 l0 x13_1).length : Int) := of_decide_eq_true (by first | (with_reducible assumption) | assumption)
                        obtain ⟨ad611, e611, hx611_0⟩ := Kd.at_int HR610_0.out x20_2 p611 q611
                        cases e611
                        replace hx611_0 := (HB.out.cell (World.block_lt_of_cell? w _ hx611_0)).trans hx611_0
                        replace p611 := eq_true p611
                        replace q611 := eq_true q611
                        go_wp2
                        go_roundg k2
                        case measure => have := HK1.out; have := HK2.out; omega
                        case rel => exact ⟨(wrap64 (x20_2 + 1)), (x609000_2), (x609001_2), (x610000_2), (x610001_2), (by first | rfl | (simp; done) | (simp [*]; done)), H', ⟨by have := HK1.out; have := HK2.out; omega⟩, ⟨by (with_reducible repeat (first | refine blk_drewN ?_ _ | refine blk_drew ?_ | refine blk_alloc ?_ _)); exact BK608.out⟩, ⟨by (with_reducible repeat (first | refine blk_drewN ?_ _ | refine blk_drew ?_ | refine blk_alloc ?_ _)); exact BK609.out⟩, ⟨by repeat (first | (with_reducible first | exact HB.out | apply below_alloc | apply pw_below_drewN | apply below_drew1 | refine below_set ?_ GE608.out | refine below_set ?_ GE609.out) | exact HB.out)⟩⟩
                      · rw [if_neg c10] at H
                        have c10b0 : ((rd (rd_L2 l0 x13_1) x20_2) == 0) = false := beq_eq_false_iff_ne.mpr c10
                        have c10b1 : ((rd (rd_L2 l0 x13_1) x20_2) != 0) = true := bne_iff_ne.mpr c10
                        have H' := Aside0.mk H
                        clear H
                        have p611 : 0 ≤ (x20_2 : Int) := of_decide_eq_true (by first | (with_reducible assumption) | assumption)
                        have q611 : x20_2 < ((rd_L2 l0 x13_1).length : Int) := of_decide_eq_true (by first | (with_reducible assumption) | assumption)
                        obtain ⟨ad611, e611, hx611_0⟩ := Kd.at_int HR610_0.out x20_2 p611 q611
                        cases e611
                        replace hx611_0 := (HB.out.cell (World.block_lt_of_cell? w _ hx611_0)).trans hx611_0
                        replace p611 := eq_true p611
                        replace q611 := eq_true q611
                        go_wp2
                        go_loopg [9] k2 (fun kq v9 w' => ∃ (x9_3 : Int) (x609000_3 : Int) (x609001_3 : Int) (x610000_3 : Int) (x610001_3 : Int), v9 = .int .i64 x9_3 ∧ Aside0 (impl_crossing.l2 kq l0 x13_1 x20_2 x9_3 l0 (l0.length : Int) x13_1 (rd_L2 l0 x13_1) ((rd_L2 l0 x13_1).length : Int) x20_2 = some (r1, r2, r3, r4, r5)) ∧ Aside0 (kq ≤ k2) ∧ Aside0 (w'.heap[gb608]? = some (.cells #[.int .i64 x609000_3, .int .i64 x609001_3] 70 (0, 0))) ∧ Aside0 (w'.heap[gb609]? = some (.cells #[.int .i64 x610000_3, .int .i64 x610001_3] 70 (0, 0))) ∧ Aside0 (Below w.heap.size w w'))
                        case atStart => exact ⟨(wrap64 (x13_1 + 1)), (x609000_2), (x609001_2), (x610000_2), (x610001_2), (by first | rfl | (simp; done) | (simp [*]; done)), H', ⟨Nat.le_refl _⟩, ⟨by (with_reducible repeat (first | refine blk_drewN ?_ _ | refine blk_drew ?_ | refine blk_alloc ?_ _)); exact BK608.out⟩, ⟨by (with_reducible repeat (first | refine blk_drewN ?_ _ | refine blk_drew ?_ | refine blk_alloc ?_ _)); exact BK609.out⟩, ⟨by repeat (first | (with_reducible first | exact HB.out | apply below_alloc | apply pw_below_drewN | apply below_drew1 | refine below_set ?_ GE608.out | refine below_set ?_ GE609.out) | exact HB.out)⟩⟩
                        case round =>
                          clear H'
                          try clear c1
                          try clear p2
                          try clear c4
                          try clear c4b0
                          try clear c5
                          try clear c5b0
                          try clear c6
                          try clear c6b0
                          try clear p6
                          try clear q6
                          try clear hx6
                          try clear c7
                          try clear c7b0
                          try clear c8
                          try clear c8b0
                          try clear c9
                          try clear c9b0
                          try clear c10
                          try clear c10b0
                          try clear c10b1
                          try clear hx610_0
                          try clear hx611_0
                          try clear p2
                          try clear p6
                          try clear p610
                          try clear p611
                          try clear q6
                          try clear q610
                          try clear q611
                          obtain ⟨x9_3, x609000_3, x609001_3, x610000_3, x610001_3, rfl, HA, HK3, BK608, BK609, HB⟩ := hrel
                          cases gk with
                          | zero => exact absurd HA.out (by simp [impl_crossing.l2])
                          | succ k3 =>
                            have H := HA.out
                            clear HA
                            simp only [impl_crossing.l2] at H
                            by_cases c11 : x9_3 < (l0.length : Int)
                            · rw [if_pos c11] at H
                              have c11b0 : decide (x9_3 < (l0.length : Int)) = true := decide_eq_true c11
                              clear c11
                              have H' := Aside0.mk H
                              clear H
                              go_wp2
                              go_loopg [36] k3 (fun kq v36 w' => ∃ (x36_4 : Int) (x609000_4 : Int) (x609001_4 : Int) (x610000_4 : Int) (x610001_4 : Int), v36 = .int .i64 x36_4 ∧ Aside0 (impl_crossing.l3 kq l0 x13_1 x20_2 x9_3 l0 (l0.length : Int) x13_1 (rd_L2 l0 x13_1) ((rd_L2 l0 x13_1).length : Int) x20_2 x20_2 x36_4 = some (r1, r2, r3, r4, r5)) ∧ Aside0 (kq ≤ k3) ∧ Aside0 (w'.heap[gb608]? = some (.cells #[.int .i64 x609000_4, .int .i64 x609001_4] 70 (0, 0))) ∧ Aside0 (w'.heap[gb609]? = some (.cells #[.int .i64 x610000_4, .int .i64 x610001_4] 70 (0, 0))) ∧ Aside0 (Below w.heap.size w w'))
                              case atStart => exact ⟨(0), (x609000_3), (x609001_3), (x610000_3), (x610001_3), (by first | rfl | (simp; done) | (simp [*]; done)), H', ⟨Nat.le_refl _⟩, ⟨by (with_reducible repeat (first | refine blk_drewN ?_ _ | refine blk_drew ?_ | refine blk_alloc ?_ _)); exact BK608.out⟩, ⟨by (with_reducible repeat (first | refine blk_drewN ?_ _ | refine blk_drew ?_ | refine blk_alloc ?_ _)); exact BK609.out⟩, ⟨by repeat (first | (with_reducible first | exact HB.out | apply below_alloc | apply pw_below_drewN | apply below_drew1 | refine below_set ?_ GE608.out | refine below_set ?_ GE609.out) | exact HB.out)⟩⟩
                              case round =>
                                clear H'
                                try clear c1
                                try clear p2
                                try clear c4
                                try clear c4b0
                                try clear c5
                                try clear c5b0
                                try clear c6
                                try clear c6b0
                                try clear p6
                                try clear q6
                                try clear hx6
                                try clear c7
                                try clear c7b0
                                try clear c8
                                try clear c8b0
                                try clear c9
                                try clear c9b0
                                try clear c10
                                try clear c10b0
                                try clear c10b1
                                try clear c11
                                try clear c11b0
                                try clear hx610_0
                                try clear hx611_0
                                try clear p2
                                try clear p6
                                try clear p610
                                try clear p611
                                try clear q6
                                try clear q610
                                try clear q611
                                obtain ⟨x36_4, x609000_4, x609001_4, x610000_4, x610001_4, rfl, HA, HK4, BK608, BK609, HB⟩ := hrel
                                cases gk with
                                | zero => exact absurd HA.out (by simp [impl_crossing.l3])
                                | succ k4 =>
                                  have H := HA.out
                                  clear HA
                                  simp only [impl_crossing.l3] at H
                                  by_cases c12 : x36_4 < x20_2
                                  · rw [if_pos c12] at H
                                    have c12b0 : decide (x36_4 < x20_2) = true := decide_eq_true c12
                                    clear c12
                                    by_cases c13 : 0 ≤ x9_3
                                    · rw [if_pos c13] at H
                                      have c13b0 : decide (0 ≤ x9_3) = true := decide_eq_true c13
                                      clear c13
                                      by_cases c14 : x9_3 < (l0.length : Int)
                                      · rw [if_pos c14] at H
                                        have c14b0 : decide (x9_3 < (l0.length : Int)) = true := decide_eq_true c14
                                        clear c14
                                        by_cases c15 : 0 ≤ x36_4
                                        · rw [if_pos c15] at H
                                          have c15b0 : decide (0 ≤ x36_4) = true := decide_eq_true c15
                                          clear c15
                                          by_cases c16 : x36_4 < ((rd_L2 l0 x9_3).length : Int)
                                          · rw [if_pos c16] at H
                                            have c16b0 : decide (x36_4 < ((rd_L2 l0 x9_3).length : Int)) = true := decide_eq_true c16
                                            clear c16
                                            by_cases c17 : (rd (rd_L2 l0 x9_3) x36_4) > 0
                                            · rw [if_pos c17] at H
                                              have c17b0 : decide (0 < (rd (rd_L2 l0 x9_3) x36_4)) = true := decide_eq_true c17
                                              clear c17
                                              simp only [Option.some.injEq, Prod.mk.injEq] at H
                                              obtain ⟨rfl, rfl, rfl, rfl, rfl⟩ := H
                                              have p612 : 0 ≤ (x9_3 : Int) := of_decide_eq_true (by first | (with_reducible assumption) | assumption)
                                              have q612 : x9_3 < (l0.length : Int) := of_decide_eq_true (by first | (with_reducible assumption) | assumption)
                                              obtain ⟨ad612, A612_0, c612_0, e612, hx612_0, hl612_0, hi612_0⟩ := at_L2 HR0.out x9_3 p612 q612
                                              obtain rfl : ad610 = ad612 := (by injection e612)
                                              replace hx612_0 := (HB.out.cell (World.block_lt_of_cell? w _ hx612_0)).trans hx612_0
                                              have HR612_0 := Aside0.mk hi612_0
                                              have HC612_0 := Aside0.mk hl612_0
                                              clear hi612_0 hl612_0
                                              replace p612 := eq_true p612
                                              replace q612 := eq_true q612
                                              have p613 : 0 ≤ (x36_4 : Int) := of_decide_eq_true (by first | (with_reducible assumption) | assumption)
                                              have q613 : x36_4 < ((rd_L2 l0 x9_3).length : Int) := of_decide_eq_true (by first | (with_reducible assumption) | assumption)
                                              obtain ⟨ad613, e613, hx613_0⟩ := Kd.at_int HR612_0.out x36_4 p613 q613
                                              cases e613
                                              replace hx613_0 := (HB.out.cell (World.block_lt_of_cell? w _ hx613_0)).trans hx613_0
                                              replace p613 := eq_true p613
                                              replace q613 := eq_true q613
                                              have hnb18 := NB608_609.out
                                              have hnc18 := NB609_608.out
                                              have hcz19_0 : wr.cell? ⟨gb608, 0, none⟩ = some (.int .i64 x609000_4) := (blk_cell BK608.out 0).trans rfl
                                              have hcz19_1 : wr.cell? ⟨gb608, 1, none⟩ = some (.int .i64 x609001_4) := (blk_cell BK608.out 1).trans rfl
                                              have hfz19_0 := blk_frozen BK608.out 0
                                              have hfz19_1 := blk_frozen BK608.out 1
                                              have hcz20_0 : wr.cell? ⟨gb609, 0, none⟩ = some (.int .i64 x610000_4) := (blk_cell BK609.out 0).trans rfl
                                              have hcz20_1 : wr.cell? ⟨gb609, 1, none⟩ = some (.int .i64 x610001_4) := (blk_cell BK609.out 1).trans rfl
                                              have hfz20_0 := blk_frozen BK609.out 0
                                              have hfz20_1 := blk_frozen BK609.out 1
                                              go_wp2
                                              refine bodyPost_ret (results_list (rs := [.cell 2 70, .cell 3 70, .tmp 4]) rfl (by simp) (.cell gb608 70 #[.int .i64 x13_1, .int .i64 x20_2] (0, 0) _ rfl (by (with_reducible repeat (first | refine blk_drewN ?_ _ | refine blk_drew ?_ | refine blk_alloc ?_ _)); refine blk_far ?_ NB608_609.out _; (with_reducible repeat (first | refine blk_drewN ?_ _ | refine blk_drew ?_ | refine blk_alloc ?_ _)); refine blk_far ?_ NB608_609.out _; (with_reducible repeat (first | refine blk_drewN ?_ _ | refine blk_drew ?_ | refine blk_alloc ?_ _)); refine blk_put (cs := #[.int .i64 x13_1, .int .i64 x609001_4]) ?_ 1 _ rfl; (with_reducible repeat (first | refine blk_drewN ?_ _ | refine blk_drew ?_ | refine blk_alloc ?_ _)); refine blk_put (cs := #[.int .i64 x609000_4, .int .i64 x609001_4]) ?_ 0 _ rfl; (with_reducible repeat (first | refine blk_drewN ?_ _ | refine blk_drew ?_ | refine blk_alloc ?_ _)); exact BK608.out) Try.underlying70 rfl (by kernel_rfl) (.cell gb609 70 #[.int .i64 x9_3, .int .i64 x36_4] (0, 0) _ rfl (by (with_reducible repeat (first | refine blk_drewN ?_ _ | refine blk_drew ?_ | refine blk_alloc ?_ _)); refine blk_put (cs := #[.int .i64 x9_3, .int .i64 x610001_4]) ?_ 1 _ rfl; (with_reducible repeat (first | refine blk_drewN ?_ _ | refine blk_drew ?_ | refine blk_alloc ?_ _)); refine blk_put (cs := #[.int .i64 x610000_4, .int .i64 x610001_4]) ?_ 0 _ rfl; (with_reducible repeat (first | refine blk_drewN ?_ _ | refine blk_drew ?_ | refine blk_alloc ?_ _)); refine blk_far ?_ NB609_608.out _; (with_reducible repeat (first | refine blk_drewN ?_ _ | refine blk_drew ?_ | refine blk_alloc ?_ _)); refine blk_far ?_ NB609_608.out _; (with_reducible repeat (first | refine blk_drewN ?_ _ | refine blk_drew ?_ | refine blk_alloc ?_ _)); exact BK609.out) Try.underlying70 rfl (by kernel_rfl) (.tmp .nil)))) rfl ?_
                                              exact ⟨by first | rfl | (simp [errW_none, errW_some] <;> rfl) | (simp [*, errW_none, errW_some] <;> rfl), by repeat (first | (with_reducible first | exact HB.out | apply below_alloc | apply pw_below_drewN | apply below_drew1 | refine below_set ?_ GE608.out | refine below_set ?_ GE609.out) | exact HB.out)⟩
                                            · rw [if_neg c17] at H
                                              have c17b0 : decide (0 < (rd (rd_L2 l0 x9_3) x36_4)) = false := decide_eq_false c17
                                              clear c17
                                              have H' := Aside0.mk H
                                              clear H
                                              have p612 : 0 ≤ (x9_3 : Int) := of_decide_eq_true (by first | (with_reducible assumption) | assumption)
                                              have q612 : x9_3 < (l0.length : Int) := of_decide_eq_true (by first | (with_reducible assumption) | assumption)
                                              obtain ⟨ad612, A612_0, c612_0, e612, hx612_0, hl612_0, hi612_0⟩ := at_L2 HR0.out x9_3 p612 q612
                                              obtain rfl : ad610 = ad612 := (by injection e612)
                                              replace hx612_0 := (HB.out.cell (World.block_lt_of_cell? w _ hx612_0)).trans hx612_0
                                              have HR612_0 := Aside0.mk hi612_0
                                              have HC612_0 := Aside0.mk hl612_0
                                              clear hi612_0 hl612_0
                                              replace p612 := eq_true p612
                                              replace q612 := eq_true q612
                                              have p613 : 0 ≤ (x36_4 : Int) := of_decide_eq_true (by first | (with_reducible assumption) | assumption)
                                              have q613 : x36_4 < ((rd_L2 l0 x9_3).length : Int) := of_decide_eq_true (by first | (with_reducible assumption) | assumption)
                                              obtain ⟨ad613, e613, hx613_0⟩ := Kd.at_int HR612_0.out x36_4 p613 q613
                                              cases e613
                                              replace hx613_0 := (HB.out.cell (World.block_lt_of_cell? w _ hx613_0)).trans hx613_0
                                              replace p613 := eq_true p613
                                              replace q613 := eq_true q613
                                              go_wp2
                                              go_roundg k4
                                              case measure => have := HK1.out; have := HK2.out; have := HK3.out; have := HK4.out; omega
                                              case rel => exact ⟨(wrap64 (x36_4 + 1)), (x609000_4), (x609001_4), (x610000_4), (x610001_4), (by first | rfl | (simp; done) | (simp [*]; done)), H', ⟨by have := HK1.out; have := HK2.out; have := HK3.out; have := HK4.out; omega⟩, ⟨by (with_reducible repeat (first | refine blk_drewN ?_ _ | refine blk_drew ?_ | refine blk_alloc ?_ _)); exact BK608.out⟩, ⟨by (with_reducible repeat (first | refine blk_drewN ?_ _ | refine blk_drew ?_ | refine blk_alloc ?_ _)); exact BK609.out⟩, ⟨by repeat (first | (with_reducible first | exact HB.out | apply below_alloc | apply pw_below_drewN | apply below_drew1 | refine below_set ?_ GE608.out | refine below_set ?_ GE609.out) | exact HB.out)⟩⟩
                                          · rw [if_neg c16] at H
                                            exact absurd H (by simp)
                                        · rw [if_neg c15] at H
                                          exact absurd H (by simp)
                                      · rw [if_neg c14] at H
                                        exact absurd H (by simp)
                                    · rw [if_neg c13] at H
                                      exact absurd H (by simp)
                                  · rw [if_neg c12] at H
                                    have c12b0 : decide (x36_4 < x20_2) = false := decide_eq_false c12
                                    clear c12
                                    have H' := Aside0.mk H
                                    clear H
                                    go_wp2
                                    go_roundg k4
                                    case measure => have := HK1.out; have := HK2.out; have := HK3.out; have := HK4.out; omega
                                    case rel => exact ⟨(wrap64 (x9_3 + 1)), (x609000_4), (x609001_4), (x610000_4), (x610001_4), (by first | rfl | (simp; done) | (simp [*]; done)), H', ⟨by have := HK1.out; have := HK2.out; have := HK3.out; have := HK4.out; omega⟩, ⟨by (with_reducible repeat (first | refine blk_drewN ?_ _ | refine blk_drew ?_ | refine blk_alloc ?_ _)); exact BK608.out⟩, ⟨by (with_reducible repeat (first | refine blk_drewN ?_ _ | refine blk_drew ?_ | refine blk_alloc ?_ _)); exact BK609.out⟩, ⟨by repeat (first | (with_reducible first | exact HB.out | apply below_alloc | apply pw_below_drewN | apply below_drew1 | refine below_set ?_ GE608.out | refine below_set ?_ GE609.out) | exact HB.out)⟩⟩
                            · rw [if_neg c11] at H
                              have c11b0 : decide (x9_3 < (l0.length : Int)) = false := decide_eq_false c11
                              clear c11
                              have H' := Aside0.mk H
                              clear H
                              go_wp2
                              go_roundg k3
                              case measure => have := HK1.out; have := HK2.out; have := HK3.out; omega
                              case rel => exact ⟨(wrap64 (x20_2 + 1)), (x609000_3), (x609001_3), (x610000_3), (x610001_3), (by first | rfl | (simp; done) | (simp [*]; done)), H', ⟨by have := HK1.out; have := HK2.out; have := HK3.out; omega⟩, ⟨by (with_reducible repeat (first | refine blk_drewN ?_ _ | refine blk_drew ?_ | refine blk_alloc ?_ _)); exact BK608.out⟩, ⟨by (with_reducible repeat (first | refine blk_drewN ?_ _ | refine blk_drew ?_ | refine blk_alloc ?_ _)); exact BK609.out⟩, ⟨by repeat (first | (with_reducible first | exact HB.out | apply below_alloc | apply pw_below_drewN | apply below_drew1 | refine below_set ?_ GE608.out | refine below_set ?_ GE609.out) | exact HB.out)⟩⟩
                    · rw [if_neg c9] at H
                      exact absurd H (by simp)
                  · rw [if_neg c8] at H
                    exact absurd H (by simp)
                · rw [if_neg c7] at H
                  have c7b0 : decide (x20_2 < ((rd_L2 l0 x13_1).length : Int)) = false := decide_eq_false c7
                  clear c7
                  have H' := Aside0.mk H
                  clear H
                  go_wp2
                  go_roundg k2
                  case measure => have := HK1.out; have := HK2.out; omega
                  case rel => exact ⟨(wrap64 (x13_1 + 1)), (x609000_2), (x609001_2), (x610000_2), (x610001_2), (by first | rfl | (simp; done) | (simp [*]; done)), H', ⟨by have := HK1.out; have := HK2.out; omega⟩, ⟨by (with_reducible repeat (first | refine blk_drewN ?_ _ | refine blk_drew ?_ | refine blk_alloc ?_ _)); exact BK608.out⟩, ⟨by (with_reducible repeat (first | refine blk_drewN ?_ _ | refine blk_drew ?_ | refine blk_alloc ?_ _)); exact BK609.out⟩, ⟨by repeat (first | (with_reducible first | exact HB.out | apply below_alloc | apply pw_below_drewN | apply below_drew1 | refine below_set ?_ GE608.out | refine below_set ?_ GE609.out) | exact HB.out)⟩⟩
          · rw [if_neg c6] at H
            exact absurd H (by simp)
        · rw [if_neg c5] at H
          exact absurd H (by simp)
      · rw [if_neg c4] at H
        have c4b0 : decide (x13_1 < (l0.length : Int)) = false := decide_eq_false c4
        clear c4
        simp only [Option.some.injEq, Prod.mk.injEq] at H
        obtain ⟨rfl, rfl, rfl, rfl, rfl⟩ := H
        have hnb21 := NB608_609.out
        have hnc21 := NB609_608.out
        have hcz22_0 : wr.cell? ⟨gb608, 0, none⟩ = some (.int .i64 x609000_1) := (blk_cell BK608.out 0).trans rfl
        have hcz22_1 : wr.cell? ⟨gb608, 1, none⟩ = some (.int .i64 x609001_1) := (blk_cell BK608.out 1).trans rfl
        have hfz22_0 := blk_frozen BK608.out 0
        have hfz22_1 := blk_frozen BK608.out 1
        have hcz23_0 : wr.cell? ⟨gb609, 0, none⟩ = some (.int .i64 x610000_1) := (blk_cell BK609.out 0).trans rfl
        have hcz23_1 : wr.cell? ⟨gb609, 1, none⟩ = some (.int .i64 x610001_1) := (blk_cell BK609.out 1).trans rfl
        have hfz23_0 := blk_frozen BK609.out 0
        have hfz23_1 := blk_frozen BK609.out 1
        go_wp2
        refine bodyPost_ret (results_list (rs := [.cell 2 70, .cell 3 70, .tmp 4]) rfl (by simp) (.cell gb608 70 #[.int .i64 0, .int .i64 0] (0, 0) _ rfl (by (with_reducible repeat (first | refine blk_drewN ?_ _ | refine blk_drew ?_ | refine blk_alloc ?_ _)); refine blk_far ?_ NB608_609.out _; (with_reducible repeat (first | refine blk_drewN ?_ _ | refine blk_drew ?_ | refine blk_alloc ?_ _)); refine blk_far ?_ NB608_609.out _; (with_reducible repeat (first | refine blk_drewN ?_ _ | refine blk_drew ?_ | refine blk_alloc ?_ _)); refine blk_put (cs := #[.int .i64 0, .int .i64 x609001_1]) ?_ 1 _ rfl; (with_reducible repeat (first | refine blk_drewN ?_ _ | refine blk_drew ?_ | refine blk_alloc ?_ _)); refine blk_put (cs := #[.int .i64 x609000_1, .int .i64 x609001_1]) ?_ 0 _ rfl; (with_reducible repeat (first | refine blk_drewN ?_ _ | refine blk_drew ?_ | refine blk_alloc ?_ _)); exact BK608.out) Try.underlying70 rfl (by kernel_rfl) (.cell gb609 70 #[.int .i64 0, .int .i64 0] (0, 0) _ rfl (by (with_reducible repeat (first | refine blk_drewN ?_ _ | refine blk_drew ?_ | refine blk_alloc ?_ _)); refine blk_put (cs := #[.int .i64 0, .int .i64 x610001_1]) ?_ 1 _ rfl; (with_reducible repeat (first | refine blk_drewN ?_ _ | refine blk_drew ?_ | refine blk_alloc ?_ _)); refine blk_put (cs := #[.int .i64 x610000_1, .int .i64 x610001_1]) ?_ 0 _ rfl; (with_reducible repeat (first | refine blk_drewN ?_ _ | refine blk_drew ?_ | refine blk_alloc ?_ _)); refine blk_far ?_ NB609_608.out _; (with_reducible repeat (first | refine blk_drewN ?_ _ | refine blk_drew ?_ | refine blk_alloc ?_ _)); refine blk_far ?_ NB609_608.out _; (with_reducible repeat (first | refine blk_drewN ?_ _ | refine blk_drew ?_ | refine blk_alloc ?_ _)); exact BK609.out) Try.underlying70 rfl (by kernel_rfl) (.tmp .nil)))) rfl ?_
        exact ⟨by first | rfl | (simp [errW_none, errW_some] <;> rfl) | (simp [*, errW_none, errW_some] <;> rfl), by repeat (first | (with_reducible first | exact HB.out | apply below_alloc | apply pw_below_drewN | apply below_drew1 | refine below_set ?_ GE608.out | refine below_set ?_ GE609.out) | exact HB.out)⟩

end Go.Proofs.Ytllnieknogficaa.K
namespace Go.Proofs.Ytllnieknogficaa.K
open Go.RowKit Go.Proofs.YtllnieknogficaaW.PrintWords Go.Proofs.YtllnieknogficaaW.PrintLast Go.Proofs.YtllnieknogficaaW.PrintMore
attribute [local go_sem] max2_int min2_int max_two min_two max_three min_three max_four min_four   -- for this text's walks alone
set_option linter.unusedVariables false
set_option linter.unusedSimpArgs false

/-! ### impl_CrossingOf: function 51 -/
def impl_CrossingOf.f (k : Nat) (l0 : List (List Int)) : Option ((List (S70)) × Bool) := (impl_isPlan.f l0).bind fun t614 => (if t614 = true then ((impl_crossing.f k l0).bind fun bt615 => (if bt615.2.2.2.2 = true then (some ((([(⟨bt615.1, bt615.2.1⟩ : S70), (⟨bt615.2.2.1, bt615.2.2.2.1⟩ : S70)] : List (S70))), true)) else (some (([] : List (S70)), false)))) else (some (([] : List (S70)), false)))
theorem impl_CrossingOf.mono : ∀ a0 k, LeO (impl_CrossingOf.f k a0) (impl_CrossingOf.f (k + 1) a0) := by
  intro a0 k
  unfold impl_CrossingOf.f
  repeat' first
      | (with_reducible exact impl_crossing.mono _ _)
      | (with_reducible exact LeO.refl _)
      | (with_reducible exact LeO.none _)
      | (with_reducible refine LeO.ite ?_ ?_)
      | (with_reducible refine LeO.bind ?_ (fun _ => ?_))
      | exact impl_crossing.mono _ _
      | exact LeO.none _
      | refine LeO.ite ?_ ?_
      | refine LeO.bind ?_ (fun _ => ?_)
set_option maxHeartbeats 8000000 in
set_option maxRecDepth 100000 in
theorem impl_CrossingOf.calls (k : Nat) (A0 : Option Addr) (c0 : Nat) (l0 : List (List Int)) (r1 : List (S70)) (r2 : Bool) (w : World) (hr0 : Kd.C (Kd.slice 3 (Kd.int .i64)) w A0 l0.length l0) (hc0 : l0.length ≤ c0) (h : impl_CrossingOf.f k l0 = some (r1, r2)) :
    Calls Try.prog 51 #[.slice A0 l0.length c0] w fun e w' => ∃ v0_ : Value, e = .returned (.tuple #[v0_, .bool r2]) ∧ Kd.R k70 70 w' w.heap.size (fun _ => True) v0_ r1 ∧ Below w.heap.size w w' := by
  have hu70 := Try.underlying70
  have HR0 := Aside0.mk hr0
  have HC0 := Aside0.mk hc0
  clear hr0 hc0
  have HB := Aside0.mk (Below.refl w.heap.size w)
  have H : ((impl_isPlan.f l0).bind fun t614 => (if t614 = true then ((impl_crossing.f k l0).bind fun bt615 => (if bt615.2.2.2.2 = true then (some ((([(⟨bt615.1, bt615.2.1⟩ : S70), (⟨bt615.2.2.1, bt615.2.2.2.1⟩ : S70)] : List (S70))), true)) else (some (([] : List (S70)), false)))) else (some (([] : List (S70)), false)))) = some (r1, r2) := h
  clear h
  replace H := Option.bind_eq_some_iff.mp H
  obtain ⟨t614, A20, H⟩ := H
  replace H : (if t614 = true then ((impl_crossing.f k l0).bind fun bt615 => (if bt615.2.2.2.2 = true then (some ((([(⟨bt615.1, bt615.2.1⟩ : S70), (⟨bt615.2.2.1, bt615.2.2.2.1⟩ : S70)] : List (S70))), true)) else (some (([] : List (S70)), false)))) else (some (([] : List (S70)), false))) = some (r1, r2) := H
  have A2 := Aside0.mk A20
  clear A20
  by_cases c3 : t614 = true
  · subst c3
    have H1 : ((impl_crossing.f k l0).bind fun bt615 => (if bt615.2.2.2.2 = true then (some ((([(⟨bt615.1, bt615.2.1⟩ : S70), (⟨bt615.2.2.1, bt615.2.2.2.1⟩ : S70)] : List (S70))), true)) else (some (([] : List (S70)), false)))) = some (r1, r2) := by rw [if_pos rfl] at H; exact H
    clear H
    have H := H1
    clear H1
    replace H := Option.bind_eq_some_iff.mp H
    obtain ⟨⟨t615, t616, t617, t618, t619⟩, A40, H⟩ := H
    replace H : (if t619 = true then (some ((([(⟨t615, t616⟩ : S70), (⟨t617, t618⟩ : S70)] : List (S70))), true)) else (some (([] : List (S70)), false))) = some (r1, r2) := H
    have A4 := Aside0.mk A40
    clear A40
    by_cases c5 : t619 = true
    · subst c5
      have H1 : (some ((([(⟨t615, t616⟩ : S70), (⟨t617, t618⟩ : S70)] : List (S70))), true)) = some (r1, r2) := by rw [if_pos rfl] at H; exact H
      clear H
      have H := H1
      clear H1
      obtain ⟨y622, hy622⟩ : ∃ y_ : List (S70), y_ = (([(⟨t615, t616⟩ : S70), (⟨t617, t618⟩ : S70)] : List (S70))) := ⟨_, rfl⟩
      replace H : (some (y622, true)) = some (r1, r2) := by first | (rw [hy622]; with_reducible exact H) | (have H2_ := (Option.bind_some _ _).symm.trans H; rw [hy622]; with_reducible exact H2_) | (have H2_ := (Option.bind_some _ _).symm.trans H; with_reducible exact H2_) | with_reducible exact H | (rw [hy622]; exact H) | exact H
      have Ny622 := Aside0.mk hy622
      clear hy622
      simp only [Option.some.injEq, Prod.mk.injEq] at H
      obtain ⟨rfl, rfl⟩ := H
      go_enter Try.func51, Try.ntmps51
      go_wp2_with (first | ((with_reducible refine gate_callee (f := 118) rfl ?_); refine goesL_ (some 8) rfl rfl Try.func118 (by kernel_rfl) rfl #[.slice A0 l0.length c0] rfl (by (try simp only [List.map_toArray, List.map_cons, List.map_nil]); first | done | rfl | (simp only [List.length_drop, List.length_take]; rfl)) ?_; (with_reducible refine (impl_isPlan.calls _ _ l0 true _ ?side1 ?side2 A2.out).mono ?_); (case side1 => repeat (first | exact HR0.out | (with_reducible refine Kd.C_alloc ?_ _) | (with_reducible refine Kd.C_drewN ?_ _) | (with_reducible refine Kd.C_drew ?_))); (case side2 => exact HC0.out); rintro e w6 ⟨rfl, hb⟩; refine ⟨_, rfl, ?_⟩; have n0_ := Aside0.mk (below_step (by repeat (first | (with_reducible first | exact HB.out | apply below_alloc | apply pw_below_drewN | apply below_drew1) | exact HB.out)) hb); clear HB; have HB := n0_; clear n0_; (try clear hb); (try clear hb2); (try clear hk); (try clear hi)) | ((with_reducible refine gate_callee (f := 141) rfl ?_); refine goesL_ (some 12) rfl rfl Try.func141 (by kernel_rfl) rfl #[.slice A0 l0.length c0] rfl (by (try simp only [List.map_toArray, List.map_cons, List.map_nil]); first | done | rfl | (simp only [List.length_drop, List.length_take]; rfl)) ?_; (with_reducible refine (impl_crossing.calls k _ _ l0 t615 t616 t617 t618 true _ ?side1 ?side2 A4.out).mono ?_); (case side1 => repeat (first | exact (Kd.C_below HR0.out HB.out) | (with_reducible refine Kd.C_alloc ?_ _) | (with_reducible refine Kd.C_drewN ?_ _) | (with_reducible refine Kd.C_drew ?_))); (case side2 => exact HC0.out); rintro e w7 ⟨rfl, hb⟩; refine ⟨_, rfl, ?_⟩; have n0_ := Aside0.mk (below_step (by repeat (first | (with_reducible first | exact HB.out | apply below_alloc | apply pw_below_drewN | apply below_drew1) | exact HB.out)) hb); clear HB; have HB := n0_; clear n0_; (try clear hb); (try clear hb2); (try clear hk); (try clear hi)) | ((with_reducible refine gate_dst (N := 4) rfl ?_); refine box_event ?hg (N := 4) ?hd (cs := #[.int .i64 0, .int .i64 0]) (t := 70) ?hr ?_; (case hd => rfl); (case hg => rfl); (case hr => first | (go_simp; done) | (go_simp; rfl)); intro gb620 hg w8 hbox hb; have n0_ := Aside0.mk (below_step (by repeat (first | (with_reducible first | exact HB.out | apply below_alloc | apply pw_below_drewN | apply below_drew1) | exact HB.out)) hb); have n1_ := Aside0.mk (hbox); have n2_ := Aside0.mk ((by rw [hg]; exact (below_size (by repeat (first | (with_reducible first | exact HB.out | apply below_alloc | apply pw_below_drewN | apply below_drew1) | exact HB.out))) : w.heap.size ≤ gb620)); have n3_ := Aside0.mk ((by rw [hg]; exact (below_size (by repeat (first | (with_reducible first | exact HB.out | apply below_alloc | apply pw_below_drewN | apply below_drew1) | exact HB.out))) : w.heap.size ≤ gb620)); clear HB; have HB := n0_; have BK620 := n1_; have GW620 := n2_; have GE620 := n3_; clear n0_ n1_ n2_ n3_; clear hb hbox hg) | ((with_reducible refine gate_dst (N := 5) rfl ?_); refine box_event ?hg (N := 5) ?hd (cs := #[.int .i64 0, .int .i64 0]) (t := 70) ?hr ?_; (case hd => rfl); (case hg => rfl); (case hr => first | (go_simp; done) | (go_simp; rfl)); intro gb621 hg w9 hbox hb; have n0_ := Aside0.mk (blk_below (g := gb620) (o := .cells #[.int .i64 0, .int .i64 0] 70 (0, 0)) (by (with_reducible repeat (first | refine blk_drewN ?_ _ | refine blk_drew ?_ | refine blk_alloc ?_ _)); exact BK620.out) hb); have n1_ := Aside0.mk (below_step (by repeat (first | (with_reducible first | exact HB.out | apply below_alloc | apply pw_below_drewN | apply below_drew1 | refine below_set ?_ GE620.out) | exact HB.out)) hb); have n2_ := Aside0.mk (hbox); have n3_ := Aside0.mk ((by rw [hg]; exact (below_size (by repeat (first | (with_reducible first | exact HB.out | apply below_alloc | apply pw_below_drewN | apply below_drew1 | refine below_set ?_ GE620.out) | exact HB.out))) : w.heap.size ≤ gb621)); have n4_ := Aside0.mk ((by rw [hg]; exact (below_size (by repeat (first | (with_reducible first | exact HB.out | apply below_alloc | apply pw_below_drewN | apply below_drew1 | refine below_set ?_ GE620.out) | exact HB.out))) : w.heap.size ≤ gb621)); have n5_ := Aside0.mk ((by rw [hg]; exact Nat.ne_of_lt (blk_lt (g := gb620) (o := .cells #[.int .i64 0, .int .i64 0] 70 (0, 0)) (by (with_reducible repeat (first | refine blk_drewN ?_ _ | refine blk_drew ?_ | refine blk_alloc ?_ _)); exact BK620.out)) : gb620 ≠ gb621)); have n6_ := Aside0.mk ((by rw [hg]; exact Nat.ne_of_gt (blk_lt (g := gb620) (o := .cells #[.int .i64 0, .int .i64 0] 70 (0, 0)) (by (with_reducible repeat (first | refine blk_drewN ?_ _ | refine blk_drew ?_ | refine blk_alloc ?_ _)); exact BK620.out)) : gb621 ≠ gb620)); clear BK620; clear HB; have BK620 := n0_; have HB := n1_; have BK621 := n2_; have GW621 := n3_; have GE621 := n4_; have NB620_621 := n5_; have NB621_620 := n6_; clear n0_ n1_ n2_ n3_ n4_ n5_ n6_; clear hb hbox hg; have hnb10 := NB620_621.out; have hnc10 := NB621_620.out; have hcz11_0 : w9.cell? ⟨gb620, 0, none⟩ = some (.int .i64 0) := (blk_cell BK620.out 0).trans rfl; have hcz11_1 : w9.cell? ⟨gb620, 1, none⟩ = some (.int .i64 0) := (blk_cell BK620.out 1).trans rfl; have hfz11_0 := blk_frozen BK620.out 0; have hfz11_1 := blk_frozen BK620.out 1; have hcz12_0 : w9.cell? ⟨gb621, 0, none⟩ = some (.int .i64 0) := (blk_cell BK621.out 0).trans rfl; have hcz12_1 : w9.cell? ⟨gb621, 1, none⟩ = some (.int .i64 0) := (blk_cell BK621.out 1).trans rfl; have hfz12_0 := blk_frozen BK621.out 0; have hfz12_1 := blk_frozen BK621.out 1) | ((with_reducible refine gate_dst (N := 20) rfl ?_); refine Kd.R_lit k70 _ 70 ?hg (N := 20) ?hd (xs := ([(⟨t615, t616⟩ : S70), (⟨t617, t618⟩ : S70)] : List (S70))) (inner := [.int .i64 t615, .int .i64 t616, .int .i64 t617, .int .i64 t618]) (ok := fun _ => True) (okp := fun _ => True) ?hr ?hp (fun _ hk => hk) trivial (Below.refl _ _) (Nat.le_refl _) (by simp) ?_; (case hd => rfl); (case hg => rfl); (case hr => first | (go_simp; done) | (go_simp; rfl)); (case hp => exact (Reps.c2 (show Kd.M k70 _ _ _ (⟨t615, t616⟩ : S70) [.int .i64 t615, .int .i64 t616] from (k70_mkM _ _ _ (⟨t615, t616⟩ : S70) )) (Reps.c2 (show Kd.M k70 _ _ _ (⟨t617, t618⟩ : S70) [.int .i64 t617, .int .i64 t618] from (k70_mkM _ _ _ (⟨t617, t618⟩ : S70) )) (Reps.none _ _)))); intro v623 w13 ho14 hb hg_ hnew_; clear hg_ hnew_; (first | rw [← Ny622.out] at ho14 | (simp only [Int.reduceToNat] at ho14; rw [← Ny622.out] at ho14)); have n0_ := Aside0.mk (Kd.R_lower (Kd.R_newB (Kd.R_newB ho14 (g := gb620) (o := .cells #[.int .i64 t615, .int .i64 t616] 70 (0, 0)) (by (with_reducible repeat (first | refine blk_drewN ?_ _ | refine blk_drew ?_ | refine blk_alloc ?_ _)); refine blk_far ?_ NB620_621.out _; (with_reducible repeat (first | refine blk_drewN ?_ _ | refine blk_drew ?_ | refine blk_alloc ?_ _)); refine blk_far ?_ NB620_621.out _; (with_reducible repeat (first | refine blk_drewN ?_ _ | refine blk_drew ?_ | refine blk_alloc ?_ _)); refine blk_put (cs := #[.int .i64 t615, .int .i64 0]) ?_ 1 _ rfl; (with_reducible repeat (first | refine blk_drewN ?_ _ | refine blk_drew ?_ | refine blk_alloc ?_ _)); refine blk_put (cs := #[.int .i64 0, .int .i64 0]) ?_ 0 _ rfl; (with_reducible repeat (first | refine blk_drewN ?_ _ | refine blk_drew ?_ | refine blk_alloc ?_ _)); exact BK620.out)) (g := gb621) (o := .cells #[.int .i64 t617, .int .i64 t618] 70 (0, 0)) (by (with_reducible repeat (first | refine blk_drewN ?_ _ | refine blk_drew ?_ | refine blk_alloc ?_ _)); refine blk_put (cs := #[.int .i64 t617, .int .i64 0]) ?_ 1 _ rfl; (with_reducible repeat (first | refine blk_drewN ?_ _ | refine blk_drew ?_ | refine blk_alloc ?_ _)); refine blk_put (cs := #[.int .i64 0, .int .i64 0]) ?_ 0 _ rfl; (with_reducible repeat (first | refine blk_drewN ?_ _ | refine blk_drew ?_ | refine blk_alloc ?_ _)); refine blk_far ?_ NB621_620.out _; (with_reducible repeat (first | refine blk_drewN ?_ _ | refine blk_drew ?_ | refine blk_alloc ?_ _)); refine blk_far ?_ NB621_620.out _; (with_reducible repeat (first | refine blk_drewN ?_ _ | refine blk_drew ?_ | refine blk_alloc ?_ _)); exact BK621.out)) (below_size (by repeat (first | (with_reducible first | exact HB.out | apply below_alloc | apply pw_below_drewN | apply below_drew1 | refine below_set ?_ GE620.out | refine below_set ?_ GE621.out) | exact HB.out)))); have n1_ := Aside0.mk (blk_below (g := gb620) (o := .cells #[.int .i64 t615, .int .i64 t616] 70 (0, 0)) (by (with_reducible repeat (first | refine blk_drewN ?_ _ | refine blk_drew ?_ | refine blk_alloc ?_ _)); refine blk_far ?_ NB620_621.out _; (with_reducible repeat (first | refine blk_drewN ?_ _ | refine blk_drew ?_ | refine blk_alloc ?_ _)); refine blk_far ?_ NB620_621.out _; (with_reducible repeat (first | refine blk_drewN ?_ _ | refine blk_drew ?_ | refine blk_alloc ?_ _)); refine blk_put (cs := #[.int .i64 t615, .int .i64 0]) ?_ 1 _ rfl; (with_reducible repeat (first | refine blk_drewN ?_ _ | refine blk_drew ?_ | refine blk_alloc ?_ _)); refine blk_put (cs := #[.int .i64 0, .int .i64 0]) ?_ 0 _ rfl; (with_reducible repeat (first | refine blk_drewN ?_ _ | refine blk_drew ?_ | refine blk_alloc ?_ _)); exact BK620.out) hb); have n2_ := Aside0.mk (blk_below (g := gb621) (o := .cells #[.int .i64 t617, .int .i64 t618] 70 (0, 0)) (by (with_reducible repeat (first | refine blk_drewN ?_ _ | refine blk_drew ?_ | refine blk_alloc ?_ _)); refine blk_put (cs := #[.int .i64 t617, .int .i64 0]) ?_ 1 _ rfl; (with_reducible repeat (first | refine blk_drewN ?_ _ | refine blk_drew ?_ | refine blk_alloc ?_ _)); refine blk_put (cs := #[.int .i64 0, .int .i64 0]) ?_ 0 _ rfl; (with_reducible repeat (first | refine blk_drewN ?_ _ | refine blk_drew ?_ | refine blk_alloc ?_ _)); refine blk_far ?_ NB621_620.out _; (with_reducible repeat (first | refine blk_drewN ?_ _ | refine blk_drew ?_ | refine blk_alloc ?_ _)); refine blk_far ?_ NB621_620.out _; (with_reducible repeat (first | refine blk_drewN ?_ _ | refine blk_drew ?_ | refine blk_alloc ?_ _)); exact BK621.out) hb); have n3_ := Aside0.mk (below_step (by repeat (first | (with_reducible first | exact HB.out | apply below_alloc | apply pw_below_drewN | apply below_drew1 | refine below_set ?_ GE620.out | refine below_set ?_ GE621.out) | exact HB.out)) hb); clear BK620; clear BK621; clear HB; have HO624 := n0_; have BK620 := n1_; have BK621 := n2_; have HB := n3_; clear n0_ n1_ n2_ n3_; clear hb ho14))
      go_ret2
      exact ⟨_, by first | rfl | (simp [errW_none, errW_some] <;> rfl) | (simp [*, errW_none, errW_some] <;> rfl), by (with_reducible repeat (first | apply Kd.R_alloc | apply Kd.R_drewN | apply Kd.R_drew)); exact Kd.R_mono HO624.out (fun _ hk => trivial), by repeat (first | (with_reducible first | exact HB.out | apply below_alloc | apply pw_below_drewN | apply below_drew1 | refine below_set ?_ GE620.out | refine below_set ?_ GE621.out) | exact HB.out)⟩
    · replace c5 := Bool.eq_false_iff.mpr c5
      subst c5
      have H1 : (some (([] : List (S70)), false)) = some (r1, r2) := by rw [if_neg (show ¬ (false = true) by decide)] at H; exact H
      clear H
      have H := H1
      clear H1
      simp only [Option.some.injEq, Prod.mk.injEq] at H
      obtain ⟨rfl, rfl⟩ := H
      go_enter Try.func51, Try.ntmps51
      go_wp2_with (first | ((with_reducible refine gate_callee (f := 118) rfl ?_); refine goesL_ (some 8) rfl rfl Try.func118 (by kernel_rfl) rfl #[.slice A0 l0.length c0] rfl (by (try simp only [List.map_toArray, List.map_cons, List.map_nil]); first | done | rfl | (simp only [List.length_drop, List.length_take]; rfl)) ?_; (with_reducible refine (impl_isPlan.calls _ _ l0 true _ ?side1 ?side2 A2.out).mono ?_); (case side1 => repeat (first | exact HR0.out | (with_reducible refine Kd.C_alloc ?_ _) | (with_reducible refine Kd.C_drewN ?_ _) | (with_reducible refine Kd.C_drew ?_))); (case side2 => exact HC0.out); rintro e w15 ⟨rfl, hb⟩; refine ⟨_, rfl, ?_⟩; have n0_ := Aside0.mk (below_step (by repeat (first | (with_reducible first | exact HB.out | apply below_alloc | apply pw_below_drewN | apply below_drew1) | exact HB.out)) hb); clear HB; have HB := n0_; clear n0_; (try clear hb); (try clear hb2); (try clear hk); (try clear hi)) | ((with_reducible refine gate_callee (f := 141) rfl ?_); refine goesL_ (some 12) rfl rfl Try.func141 (by kernel_rfl) rfl #[.slice A0 l0.length c0] rfl (by (try simp only [List.map_toArray, List.map_cons, List.map_nil]); first | done | rfl | (simp only [List.length_drop, List.length_take]; rfl)) ?_; (with_reducible refine (impl_crossing.calls k _ _ l0 t615 t616 t617 t618 false _ ?side1 ?side2 A4.out).mono ?_); (case side1 => repeat (first | exact (Kd.C_below HR0.out HB.out) | (with_reducible refine Kd.C_alloc ?_ _) | (with_reducible refine Kd.C_drewN ?_ _) | (with_reducible refine Kd.C_drew ?_))); (case side2 => exact HC0.out); rintro e w16 ⟨rfl, hb⟩; refine ⟨_, rfl, ?_⟩; have n0_ := Aside0.mk (below_step (by repeat (first | (with_reducible first | exact HB.out | apply below_alloc | apply pw_below_drewN | apply below_drew1) | exact HB.out)) hb); clear HB; have HB := n0_; clear n0_; (try clear hb); (try clear hb2); (try clear hk); (try clear hi)) | ((with_reducible refine gate_dst (N := 4) rfl ?_); refine box_event ?hg (N := 4) ?hd (cs := #[.int .i64 0, .int .i64 0]) (t := 70) ?hr ?_; (case hd => rfl); (case hg => rfl); (case hr => first | (go_simp; done) | (go_simp; rfl)); intro gb620 hg w17 hbox hb; have n0_ := Aside0.mk (below_step (by repeat (first | (with_reducible first | exact HB.out | apply below_alloc | apply pw_below_drewN | apply below_drew1) | exact HB.out)) hb); have n1_ := Aside0.mk (hbox); have n2_ := Aside0.mk ((by rw [hg]; exact (below_size (by repeat (first | (with_reducible first | exact HB.out | apply below_alloc | apply pw_below_drewN | apply below_drew1) | exact HB.out))) : w.heap.size ≤ gb620)); have n3_ := Aside0.mk ((by rw [hg]; exact (below_size (by repeat (first | (with_reducible first | exact HB.out | apply below_alloc | apply pw_below_drewN | apply below_drew1) | exact HB.out))) : w.heap.size ≤ gb620)); clear HB; have HB := n0_; have BK620 := n1_; have GW620 := n2_; have GE620 := n3_; clear n0_ n1_ n2_ n3_; clear hb hbox hg) | ((with_reducible refine gate_dst (N := 5) rfl ?_); refine box_event ?hg (N := 5) ?hd (cs := #[.int .i64 0, .int .i64 0]) (t := 70) ?hr ?_; (case hd => rfl); (case hg => rfl); (case hr => first | (go_simp; done) | (go_simp; rfl)); intro gb621 hg w18 hbox hb; have n0_ := Aside0.mk (blk_below (g := gb620) (o := .cells #[.int .i64 0, .int .i64 0] 70 (0, 0)) (by (with_reducible repeat (first | refine blk_drewN ?_ _ | refine blk_drew ?_ | refine blk_alloc ?_ _)); exact BK620.out) hb); have n1_ := Aside0.mk (below_step (by repeat (first | (with_reducible first | exact HB.out | apply below_alloc | apply pw_below_drewN | apply below_drew1 | refine below_set ?_ GE620.out) | exact HB.out)) hb); have n2_ := Aside0.mk (hbox); have n3_ := Aside0.mk ((by rw [hg]; exact (below_size (by repeat (first | (with_reducible first | exact HB.out | apply below_alloc | apply pw_below_drewN | apply below_drew1 | refine below_set ?_ GE620.out) | exact HB.out))) : w.heap.size ≤ gb621)); have n4_ := Aside0.mk ((by rw [hg]; exact (below_size (by repeat (first | (with_reducible first | exact HB.out | apply below_alloc | apply pw_below_drewN | apply below_drew1 | refine below_set ?_ GE620.out) | exact HB.out))) : w.heap.size ≤ gb621)); have n5_ := Aside0.mk ((by rw [hg]; exact Nat.ne_of_lt (blk_lt (g := gb620) (o := .cells #[.int .i64 0, .int .i64 0] 70 (0, 0)) (by (with_reducible repeat (first | refine blk_drewN ?_ _ | refine blk_drew ?_ | refine blk_alloc ?_ _)); exact BK620.out)) : gb620 ≠ gb621)); have n6_ := Aside0.mk ((by rw [hg]; exact Nat.ne_of_gt (blk_lt (g := gb620) (o := .cells #[.int .i64 0, .int .i64 0] 70 (0, 0)) (by (with_reducible repeat (first | refine blk_drewN ?_ _ | refine blk_drew ?_ | refine blk_alloc ?_ _)); exact BK620.out)) : gb621 ≠ gb620)); clear BK620; clear HB; have BK620 := n0_; have HB := n1_; have BK621 := n2_; have GW621 := n3_; have GE621 := n4_; have NB620_621 := n5_; have NB621_620 := n6_; clear n0_ n1_ n2_ n3_ n4_ n5_ n6_; clear hb hbox hg; have hnb19 := NB620_621.out; have hnc19 := NB621_620.out; have hcz20_0 : w18.cell? ⟨gb620, 0, none⟩ = some (.int .i64 0) := (blk_cell BK620.out 0).trans rfl; have hcz20_1 : w18.cell? ⟨gb620, 1, none⟩ = some (.int .i64 0) := (blk_cell BK620.out 1).trans rfl; have hfz20_0 := blk_frozen BK620.out 0; have hfz20_1 := blk_frozen BK620.out 1; have hcz21_0 : w18.cell? ⟨gb621, 0, none⟩ = some (.int .i64 0) := (blk_cell BK621.out 0).trans rfl; have hcz21_1 : w18.cell? ⟨gb621, 1, none⟩ = some (.int .i64 0) := (blk_cell BK621.out 1).trans rfl; have hfz21_0 := blk_frozen BK621.out 0; have hfz21_1 := blk_frozen BK621.out 1))
      go_ret2
      exact ⟨_, by first | rfl | (simp [errW_none, errW_some] <;> rfl) | (simp [*, errW_none, errW_some] <;> rfl), by first | exact Kd.R_nil _ _ _ _ _ | exact Kd.N_nil _ _ _ _ _ | exact Kd.V_nil _ _ _ _ _ | exact Kd.Q_nil _ _ _ _ _ | exact Kd.S_nil _ _ _ _ _, by repeat (first | (with_reducible first | exact HB.out | apply below_alloc | apply pw_below_drewN | apply below_drew1 | refine below_set ?_ GE620.out | refine below_set ?_ GE621.out) | exact HB.out)⟩
  · replace c3 := Bool.eq_false_iff.mpr c3
    subst c3
    have H1 : (some (([] : List (S70)), false)) = some (r1, r2) := by rw [if_neg (show ¬ (false = true) by decide)] at H; exact H
    clear H
    have H := H1
    clear H1
    simp only [Option.some.injEq, Prod.mk.injEq] at H
    obtain ⟨rfl, rfl⟩ := H
    go_enter Try.func51, Try.ntmps51
    go_wp2_with (first | ((with_reducible refine gate_callee (f := 118) rfl ?_); refine goesL_ (some 8) rfl rfl Try.func118 (by kernel_rfl) rfl #[.slice A0 l0.length c0] rfl (by (try simp only [List.map_toArray, List.map_cons, List.map_nil]); first | done | rfl | (simp only [List.length_drop, List.length_take]; rfl)) ?_; (with_reducible refine (impl_isPlan.calls _ _ l0 false _ ?side1 ?side2 A2.out).mono ?_); (case side1 => repeat (first | exact HR0.out | (with_reducible refine Kd.C_alloc ?_ _) | (with_reducible refine Kd.C_drewN ?_ _) | (with_reducible refine Kd.C_drew ?_))); (case side2 => exact HC0.out); rintro e w22 ⟨rfl, hb⟩; refine ⟨_, rfl, ?_⟩; have n0_ := Aside0.mk (below_step (by repeat (first | (with_reducible first | exact HB.out | apply below_alloc | apply pw_below_drewN | apply below_drew1) | exact HB.out)) hb); clear HB; have HB := n0_; clear n0_; (try clear hb); (try clear hb2); (try clear hk); (try clear hi)))
    go_ret2
    exact ⟨_, by first | rfl | (simp [errW_none, errW_some] <;> rfl) | (simp [*, errW_none, errW_some] <;> rfl), by first | exact Kd.R_nil _ _ _ _ _ | exact Kd.N_nil _ _ _ _ _ | exact Kd.V_nil _ _ _ _ _ | exact Kd.Q_nil _ _ _ _ _ | exact Kd.S_nil _ _ _ _ _, by repeat (first | (with_reducible first | exact HB.out | apply below_alloc | apply pw_below_drewN | apply below_drew1) | exact HB.out)⟩

end Go.Proofs.Ytllnieknogficaa.K
namespace Go.Proofs.Ytllnieknogficaa.K
open Go.RowKit Go.Proofs.YtllnieknogficaaW.PrintWords Go.Proofs.YtllnieknogficaaW.PrintLast Go.Proofs.YtllnieknogficaaW.PrintMore
attribute [local go_sem] max2_int min2_int max_two min_two max_three min_three max_four min_four   -- for this text's walks alone
set_option linter.unusedVariables false
set_option linter.unusedSimpArgs false

/-! ### spec_plCells: function 210 -/
mutual
def spec_plCells.l0 : Nat → List (S70) → List (List Int) → Int → Int → Option ((List (S70)))
  | 0, _, _, _, _ => none
  | k + 1, x3, x8, x9, x10 => if x10 < x9 then (if 0 ≤ x10 then (if x10 < (x8.length : Int) then (spec_plCells.l1 k x3 x10 x8 x9 x10 (rd_L2 x8 x10) ((rd_L2 x8 x10).length : Int) 0) else (none)) else (none)) else (some x3)
def spec_plCells.l1 : Nat → List (S70) → Int → List (List Int) → Int → Int → List Int → Int → Int → Option ((List (S70)))
  | 0, _, _, _, _, _, _, _, _ => none
  | k + 1, x3, x4, x8, x9, x10, x15, x16, x17 => if x17 < x16 then (if 0 ≤ x17 then (if x17 < (x15.length : Int) then (if (rd x15 x17) > 0 then (if x3.length < 8796093022208 then (spec_plCells.l1 k (x3 ++ [(⟨x4, x17⟩ : S70)]) x4 x8 x9 x10 x15 x16 (wrap64 (x17 + 1))) else (none)) else (spec_plCells.l1 k x3 x4 x8 x9 x10 x15 x16 (wrap64 (x17 + 1)))) else (none)) else (none)) else (spec_plCells.l0 k x3 x8 x9 (wrap64 (x10 + 1)))
end
def spec_plCells.f (k : Nat) (l0 : List (List Int)) : Option ((List (S70))) := spec_plCells.l0 k ([] : List (S70)) l0 (l0.length : Int) 0
theorem spec_plCells.mono_l : ∀ k, (∀ y0 y1 y2 y3, LeO (spec_plCells.l0 k y0 y1 y2 y3) (spec_plCells.l0 (k + 1) y0 y1 y2 y3)) ∧ (∀ y0 y1 y2 y3 y4 y5 y6 y7, LeO (spec_plCells.l1 k y0 y1 y2 y3 y4 y5 y6 y7) (spec_plCells.l1 (k + 1) y0 y1 y2 y3 y4 y5 y6 y7))
  | 0 => ⟨fun _ _ _ _ r h => by simp [spec_plCells.l0] at h, fun _ _ _ _ _ _ _ _ r h => by simp [spec_plCells.l1] at h⟩
  | k + 1 => by
    obtain ⟨ih0, ih1⟩ := spec_plCells.mono_l k
    refine ⟨?_, ?_⟩
    · intro y0 y1 y2 y3
      unfold spec_plCells.l0
      repeat' first
      | (with_reducible exact ih0 _ _ _ _)
      | (with_reducible exact ih1 _ _ _ _ _ _ _ _)
      | (with_reducible exact LeO.refl _)
      | (with_reducible exact LeO.none _)
      | (with_reducible refine LeO.ite ?_ ?_)
      | (with_reducible refine LeO.bind ?_ (fun _ => ?_))
      | exact ih0 _ _ _ _
      | exact ih1 _ _ _ _ _ _ _ _
      | exact LeO.none _
      | refine LeO.ite ?_ ?_
      | refine LeO.bind ?_ (fun _ => ?_)
    · intro y0 y1 y2 y3 y4 y5 y6 y7
      unfold spec_plCells.l1
      repeat' first
      | (with_reducible exact ih0 _ _ _ _)
      | (with_reducible exact ih1 _ _ _ _ _ _ _ _)
      | (with_reducible exact LeO.refl _)
      | (with_reducible exact LeO.none _)
      | (with_reducible refine LeO.ite ?_ ?_)
      | (with_reducible refine LeO.bind ?_ (fun _ => ?_))
      | exact ih0 _ _ _ _
      | exact ih1 _ _ _ _ _ _ _ _
      | exact LeO.none _
      | refine LeO.ite ?_ ?_
      | refine LeO.bind ?_ (fun _ => ?_)
theorem spec_plCells.mono : ∀ a0 k, LeO (spec_plCells.f k a0) (spec_plCells.f (k + 1) a0) := by
  intro a0 k
  obtain ⟨ih0, ih1⟩ := spec_plCells.mono_l k
  unfold spec_plCells.f
  repeat' first
      | (with_reducible exact ih0 _ _ _ _)
      | (with_reducible exact ih1 _ _ _ _ _ _ _ _)
      | (with_reducible exact LeO.refl _)
      | (with_reducible exact LeO.none _)
      | (with_reducible refine LeO.ite ?_ ?_)
      | (with_reducible refine LeO.bind ?_ (fun _ => ?_))
      | exact ih0 _ _ _ _
      | exact ih1 _ _ _ _ _ _ _ _
      | exact LeO.none _
      | refine LeO.ite ?_ ?_
      | refine LeO.bind ?_ (fun _ => ?_)
set_option maxHeartbeats 8000000 in
set_option maxRecDepth 100000 in
theorem spec_plCells.calls (k : Nat) (A0 : Option Addr) (c0 : Nat) (l0 : List (List Int)) (r : List (S70)) (w : World) (hr0 : Kd.C (Kd.slice 3 (Kd.int .i64)) w A0 l0.length l0) (hc0 : l0.length ≤ c0) (h : spec_plCells.f k l0 = some r) :
    Calls Try.prog 210 #[.slice A0 l0.length c0] w fun e w' => ∃ v0_ : Value, e = .returned (v0_) ∧ Kd.R k70 70 w' w.heap.size (fun _ => True) v0_ r ∧ Below w.heap.size w w' := by
  have hu70 := Try.underlying70
  have HR0 := Aside0.mk hr0
  have HC0 := Aside0.mk hc0
  clear hr0 hc0
  have HB := Aside0.mk (Below.refl w.heap.size w)
  have H : (spec_plCells.l0 k ([] : List (S70)) l0 (l0.length : Int) 0) = some r := h
  clear h
  have H' := Aside0.mk H
  clear H
  go_enter Try.func210, Try.ntmps210
  go_wp2
  go_loopg [3, 10] k (fun kq v3 v10 w' => ∃ (x3_1 : List (S70)) (x10_1 : Int), v10 = .int .i64 x10_1 ∧ Aside0 (spec_plCells.l0 kq x3_1 l0 (l0.length : Int) x10_1 = some r) ∧ Aside0 (kq ≤ k) ∧ Aside0 (Kd.R k70 70 w' w.heap.size (fun _ => True) v3 x3_1) ∧ Aside0 (Below w.heap.size w w'))
  case atStart => exact ⟨(([] : List (S70))), (0), (by first | rfl | (simp; done) | (simp [*]; done)), H', ⟨Nat.le_refl _⟩, ⟨by first | exact Kd.R_nil _ _ _ _ _ | exact Kd.N_nil _ _ _ _ _ | exact Kd.V_nil _ _ _ _ _ | exact Kd.Q_nil _ _ _ _ _ | exact Kd.S_nil _ _ _ _ _⟩, ⟨by repeat (first | (with_reducible first | exact HB.out | apply below_alloc | apply pw_below_drewN | apply below_drew1) | exact HB.out)⟩⟩
  case round =>
    clear H'
    obtain ⟨x3_1, x10_1, rfl, HA, HK1, HO_3, HB⟩ := hrel
    cases gk with
    | zero => exact absurd HA.out (by simp [spec_plCells.l0])
    | succ k1 =>
      have H := HA.out
      clear HA
      simp only [spec_plCells.l0] at H
      by_cases c2 : x10_1 < (l0.length : Int)
      · rw [if_pos c2] at H
        have c2b0 : decide (x10_1 < (l0.length : Int)) = true := decide_eq_true c2
        clear c2
        by_cases c3 : 0 ≤ x10_1
        · rw [if_pos c3] at H
          have c3b0 : decide (0 ≤ x10_1) = true := decide_eq_true c3
          clear c3
          by_cases c4 : x10_1 < (l0.length : Int)
          · rw [if_pos c4] at H
            have c4b0 : decide (x10_1 < (l0.length : Int)) = true := decide_eq_true c4
            clear c4
            have H' := Aside0.mk H
            clear H
            have p588 : 0 ≤ (x10_1 : Int) := of_decide_eq_true (by first | (with_reducible assumption) | assumption)
            have q588 : x10_1 < (l0.length : Int) := of_decide_eq_true (by first | (with_reducible assumption) | assumption)
            obtain ⟨ad588, A588_0, c588_0, e588, hx588_0, hl588_0, hi588_0⟩ := at_L2 HR0.out x10_1 p588 q588
            cases e588
            replace hx588_0 := (HB.out.cell (World.block_lt_of_cell? w _ hx588_0)).trans hx588_0
            have HR588_0 := Aside0.mk hi588_0
            have HC588_0 := Aside0.mk hl588_0
            clear hi588_0 hl588_0
            replace p588 := eq_true p588
            replace q588 := eq_true q588
            go_wp2
            go_loopg [3, 17] k1 (fun kq v3 v17 w' => ∃ (x3_2 : List (S70)) (x17_2 : Int), v17 = .int .i64 x17_2 ∧ Aside0 (spec_plCells.l1 kq x3_2 x10_1 l0 (l0.length : Int) x10_1 (rd_L2 l0 x10_1) ((rd_L2 l0 x10_1).length : Int) x17_2 = some r) ∧ Aside0 (kq ≤ k1) ∧ Aside0 (Kd.R k70 70 w' w.heap.size (fun _ => True) v3 x3_2) ∧ Aside0 (Below w.heap.size w w'))
            case atStart => exact ⟨(x3_1), (0), (by first | rfl | (simp; done) | (simp [*]; done)), H', ⟨Nat.le_refl _⟩, ⟨by (with_reducible repeat (first | apply Kd.R_alloc | apply Kd.R_drewN | apply Kd.R_drew)); exact HO_3.out⟩, ⟨by repeat (first | (with_reducible first | exact HB.out | apply below_alloc | apply pw_below_drewN | apply below_drew1) | exact HB.out)⟩⟩
            case round =>
              clear H'
              try clear c2
              try clear c2b0
              try clear p2
              try clear c3
              try clear c3b0
              try clear c4
              try clear c4b0
              try clear hx588_0
              try clear p588
              try clear q588
              obtain ⟨x3_2, x17_2, rfl, HA, HK2, HO_3, HB⟩ := hrel
              cases gk with
              | zero => exact absurd HA.out (by simp [spec_plCells.l1])
              | succ k2 =>
                have H := HA.out
                clear HA
                simp only [spec_plCells.l1] at H
                by_cases c5 : x17_2 < ((rd_L2 l0 x10_1).length : Int)
                · rw [if_pos c5] at H
                  have c5b0 : decide (x17_2 < ((rd_L2 l0 x10_1).length : Int)) = true := decide_eq_true c5
                  clear c5
                  by_cases c6 : 0 ≤ x17_2
                  · rw [if_pos c6] at H
                    have c6b0 : decide (0 ≤ x17_2) = true := decide_eq_true c6
                    clear c6
                    by_cases c7 : x17_2 < ((rd_L2 l0 x10_1).length : Int)
                    · rw [if_pos c7] at H
                      have c7b0 : decide (x17_2 < ((rd_L2 l0 x10_1).length : Int)) = true := decide_eq_true c7
                      clear c7
                      by_cases c8 : (rd (rd_L2 l0 x10_1) x17_2) > 0
                      · rw [if_pos c8] at H
                        have c8b0 : decide (0 < (rd (rd_L2 l0 x10_1) x17_2)) = true := decide_eq_true c8
                        clear c8
                        by_cases c9 : x3_2.length < 8796093022208
                        · rw [if_pos c9] at H
                          have LMc9 := Aside0.mk c9
                          clear c9
                          obtain ⟨y590, hy590⟩ : ∃ y_ : List (S70), y_ = (x3_2 ++ [(⟨x10_1, x17_2⟩ : S70)]) := ⟨_, rfl⟩
                          replace H : (spec_plCells.l1 k2 y590 x10_1 l0 (l0.length : Int) x10_1 (rd_L2 l0 x10_1) ((rd_L2 l0 x10_1).length : Int) (wrap64 (x17_2 + 1))) = some r := by first | (rw [hy590]; with_reducible exact H) | (have H2_ := (Option.bind_some _ _).symm.trans H; rw [hy590]; with_reducible exact H2_) | (have H2_ := (Option.bind_some _ _).symm.trans H; with_reducible exact H2_) | with_reducible exact H | (rw [hy590]; exact H) | exact H
                          have Ny590 := Aside0.mk hy590
                          clear hy590
                          have H' := Aside0.mk H
                          clear H
                          have p589 : 0 ≤ (x17_2 : Int) := of_decide_eq_true (by first | (with_reducible assumption) | assumption)
                          have q589 : x17_2 < ((rd_L2 l0 x10_1).length : Int) := of_decide_eq_true (by first | (with_reducible assumption) | assumption)
                          obtain ⟨ad589, e589, hx589_0⟩ := Kd.at_int HR588_0.out x17_2 p589 q589
                          cases e589
                          replace hx589_0 := (HB.out.cell (World.block_lt_of_cell? w _ hx589_0)).trans hx589_0
                          replace p589 := eq_true p589
                          replace q589 := eq_true q589
                          go_wp2_with (first | ((with_reducible refine gate_builtin (b := .append) (xs := #[.tmp 24, .tmp 28]) rfl ?_); at_builtin; refine Kd.R_append k70 (w0 := w) w.heap.size rfl (.tmp 24) (.tmp 28) 56 70 (.agg #[(.int .i64 0), (.int .i64 0)]) 16 rfl Try.underlying56 info70 rfl (by decide) (by omega) u3 x3_2 (⟨x10_1, x17_2⟩ : S70) [.int .i64 x10_1, .int .i64 x17_2] (fun _ => True) (fun _ => False) rfl rfl ?aP (fun _ hk => hk.elim) ?aF ?aO ?aB ?aS ?aL ?_; (case aP => exact k70_mkM _ _ _ (⟨x10_1, x17_2⟩ : S70)); (case aB => exact (by repeat (first | (with_reducible first | exact HB.out | apply below_alloc | apply pw_below_drewN | apply below_drew1) | exact HB.out))); (case aF => exact (fun _ _ => trivial)); (case aO => exact (by (with_reducible repeat (first | apply Kd.R_alloc | apply Kd.R_drewN | apply Kd.R_drew)); exact HO_3.out)); (case aS => exact (below_size (by repeat (first | (with_reducible first | exact HB.out | apply below_alloc | apply pw_below_drewN | apply below_drew1) | exact HB.out)))); (case aL => have := LMc9.out; omega); intro v591 w10 ho hb hg hat; rw [← Ny590.out] at ho; have n0_ := Aside0.mk (hb); have n1_ := Aside0.mk (ho); clear HB; clear HO_3; have HB := n0_; have HO592 := n1_; clear n0_ n1_; clear ho hb hg hat))
                          go_roundg k2
                          case measure => have := HK1.out; have := HK2.out; omega
                          case rel => exact ⟨(y590), (wrap64 (x17_2 + 1)), (by first | rfl | (simp; done) | (simp [*]; done)), H', ⟨by have := HK1.out; have := HK2.out; omega⟩, ⟨by (with_reducible repeat (first | apply Kd.R_alloc | apply Kd.R_drewN | apply Kd.R_drew)); exact HO592.out⟩, ⟨by repeat (first | (with_reducible first | exact HB.out | apply below_alloc | apply pw_below_drewN | apply below_drew1) | exact HB.out)⟩⟩
                        · rw [if_neg c9] at H
                          exact absurd H (by simp)
                      · rw [if_neg c8] at H
                        have c8b0 : decide (0 < (rd (rd_L2 l0 x10_1) x17_2)) = false := decide_eq_false c8
                        clear c8
                        have H' := Aside0.mk H
                        clear H
                        have p589 : 0 ≤ (x17_2 : Int) := of_decide_eq_true (by first | (with_reducible assumption) | assumption)
                        have q589 : x17_2 < ((rd_L2 l0 x10_1).length : Int) := of_decide_eq_true (by first | (with_reducible assumption) | assumption)
                        obtain ⟨ad589, e589, hx589_0⟩ := Kd.at_int HR588_0.out x17_2 p589 q589
                        cases e589
                        replace hx589_0 := (HB.out.cell (World.block_lt_of_cell? w _ hx589_0)).trans hx589_0
                        replace p589 := eq_true p589
                        replace q589 := eq_true q589
                        go_wp2
                        go_roundg k2
                        case measure => have := HK1.out; have := HK2.out; omega
                        case rel => exact ⟨(x3_2), (wrap64 (x17_2 + 1)), (by first | rfl | (simp; done) | (simp [*]; done)), H', ⟨by have := HK1.out; have := HK2.out; omega⟩, ⟨by (with_reducible repeat (first | apply Kd.R_alloc | apply Kd.R_drewN | apply Kd.R_drew)); exact HO_3.out⟩, ⟨by repeat (first | (with_reducible first | exact HB.out | apply below_alloc | apply pw_below_drewN | apply below_drew1) | exact HB.out)⟩⟩
                    · rw [if_neg c7] at H
                      exact absurd H (by simp)
                  · rw [if_neg c6] at H
                    exact absurd H (by simp)
                · rw [if_neg c5] at H
                  have c5b0 : decide (x17_2 < ((rd_L2 l0 x10_1).length : Int)) = false := decide_eq_false c5
                  clear c5
                  have H' := Aside0.mk H
                  clear H
                  go_wp2
                  go_roundg k2
                  case measure => have := HK1.out; have := HK2.out; omega
                  case rel => exact ⟨(x3_2), (wrap64 (x10_1 + 1)), (by first | rfl | (simp; done) | (simp [*]; done)), H', ⟨by have := HK1.out; have := HK2.out; omega⟩, ⟨by (with_reducible repeat (first | apply Kd.R_alloc | apply Kd.R_drewN | apply Kd.R_drew)); exact HO_3.out⟩, ⟨by repeat (first | (with_reducible first | exact HB.out | apply below_alloc | apply pw_below_drewN | apply below_drew1) | exact HB.out)⟩⟩
          · rw [if_neg c4] at H
            exact absurd H (by simp)
        · rw [if_neg c3] at H
          exact absurd H (by simp)
      · rw [if_neg c2] at H
        have c2b0 : decide (x10_1 < (l0.length : Int)) = false := decide_eq_false c2
        clear c2
        obtain rfl := Option.some.inj H
        go_wp2
        go_ret
        exact ⟨_, by first | rfl | (simp [errW_none, errW_some] <;> rfl) | (simp [*, errW_none, errW_some] <;> rfl), by (with_reducible repeat (first | apply Kd.R_alloc | apply Kd.R_drewN | apply Kd.R_drew)); exact HO_3.out, by repeat (first | (with_reducible first | exact HB.out | apply below_alloc | apply pw_below_drewN | apply below_drew1) | exact HB.out)⟩

end Go.Proofs.Ytllnieknogficaa.K
namespace Go.Proofs.Ytllnieknogficaa.K
open Go.RowKit Go.Proofs.YtllnieknogficaaW.PrintWords Go.Proofs.YtllnieknogficaaW.PrintLast Go.Proofs.YtllnieknogficaaW.PrintMore
attribute [local go_sem] max2_int min2_int max_two min_two max_three min_three max_four min_four   -- for this text's walks alone
set_option linter.unusedVariables false
set_option linter.unusedSimpArgs false

/-! ### spec_plCrossing: function 140 -/
mutual
def spec_plCrossing.l0 : Nat → List (S70) → List (S70) → Int → Int → Option ((List (S70)) × Bool)
  | 0, _, _, _, _ => none
  | k + 1, x4, x11, x12, x13 => if x13 < x12 then (if 0 ≤ x13 then (if x13 < (x11.length : Int) then (spec_plCrossing.l1 k x4 x11 x12 x13 x4 (x4.length : Int) 0 ((rd_T70 x11 x13).f0) ((rd_T70 x11 x13).f1)) else (none)) else (none)) else (some (([] : List (S70)), false))
def spec_plCrossing.l1 : Nat → List (S70) → List (S70) → Int → Int → List (S70) → Int → Int → Int → Int → Option ((List (S70)) × Bool)
  | 0, _, _, _, _, _, _, _, _, _ => none
  | k + 1, x4, x11, x12, x13, x17, x18, x19, x598000, x598001 => if x19 < x18 then (if 0 ≤ x19 then (if x19 < (x17.length : Int) then (if x598000 < ((rd_T70 x17 x19).f0) then (if x598001 > ((rd_T70 x17 x19).f1) then (some ((([(⟨x598000, x598001⟩ : S70), (⟨(rd_T70 x17 x19).f0, (rd_T70 x17 x19).f1⟩ : S70)] : List (S70))), true)) else (spec_plCrossing.l1 k x4 x11 x12 x13 x17 x18 (wrap64 (x19 + 1)) x598000 x598001)) else (spec_plCrossing.l1 k x4 x11 x12 x13 x17 x18 (wrap64 (x19 + 1)) x598000 x598001)) else (none)) else (none)) else (spec_plCrossing.l0 k x4 x11 x12 (wrap64 (x13 + 1)))
end
def spec_plCrossing.f (k : Nat) (l0 : List (List Int)) : Option ((List (S70)) × Bool) := (spec_plCells.f k l0).bind fun t593 => (spec_plCrossing.l0 k t593 t593 (t593.length : Int) 0)
theorem spec_plCrossing.mono_l : ∀ k, (∀ y0 y1 y2 y3, LeO (spec_plCrossing.l0 k y0 y1 y2 y3) (spec_plCrossing.l0 (k + 1) y0 y1 y2 y3)) ∧ (∀ y0 y1 y2 y3 y4 y5 y6 y7 y8, LeO (spec_plCrossing.l1 k y0 y1 y2 y3 y4 y5 y6 y7 y8) (spec_plCrossing.l1 (k + 1) y0 y1 y2 y3 y4 y5 y6 y7 y8))
  | 0 => ⟨fun _ _ _ _ r h => by simp [spec_plCrossing.l0] at h, fun _ _ _ _ _ _ _ _ _ r h => by simp [spec_plCrossing.l1] at h⟩
  | k + 1 => by
    obtain ⟨ih0, ih1⟩ := spec_plCrossing.mono_l k
    refine ⟨?_, ?_⟩
    · intro y0 y1 y2 y3
      unfold spec_plCrossing.l0
      repeat' first
      | (with_reducible exact ih0 _ _ _ _)
      | (with_reducible exact ih1 _ _ _ _ _ _ _ _ _)
      | (with_reducible exact spec_plCells.mono _ _)
      | (with_reducible exact LeO.refl _)
      | (with_reducible exact LeO.none _)
      | (with_reducible refine LeO.ite ?_ ?_)
      | (with_reducible refine LeO.bind ?_ (fun _ => ?_))
      | exact ih0 _ _ _ _
      | exact ih1 _ _ _ _ _ _ _ _ _
      | exact spec_plCells.mono _ _
      | exact LeO.none _
      | refine LeO.ite ?_ ?_
      | refine LeO.bind ?_ (fun _ => ?_)
    · intro y0 y1 y2 y3 y4 y5 y6 y7 y8
      unfold spec_plCrossing.l1
      repeat' first
      | (with_reducible exact ih0 _ _ _ _)
      | (with_reducible exact ih1 _ _ _ _ _ _ _ _ _)
      | (with_reducible exact spec_plCells.mono _ _)
      | (with_reducible exact LeO.refl _)
      | (with_reducible exact LeO.none _)
      | (with_reducible refine LeO.ite ?_ ?_)
      | (with_reducible refine LeO.bind ?_ (fun _ => ?_))
      | exact ih0 _ _ _ _
      | exact ih1 _ _ _ _ _ _ _ _ _
      | exact spec_plCells.mono _ _
      | exact LeO.none _
      | refine LeO.ite ?_ ?_
      | refine LeO.bind ?_ (fun _ => ?_)
theorem spec_plCrossing.mono : ∀ a0 k, LeO (spec_plCrossing.f k a0) (spec_plCrossing.f (k + 1) a0) := by
  intro a0 k
  obtain ⟨ih0, ih1⟩ := spec_plCrossing.mono_l k
  unfold spec_plCrossing.f
  repeat' first
      | (with_reducible exact ih0 _ _ _ _)
      | (with_reducible exact ih1 _ _ _ _ _ _ _ _ _)
      | (with_reducible exact spec_plCells.mono _ _)
      | (with_reducible exact LeO.refl _)
      | (with_reducible exact LeO.none _)
      | (with_reducible refine LeO.ite ?_ ?_)
      | (with_reducible refine LeO.bind ?_ (fun _ => ?_))
      | exact ih0 _ _ _ _
      | exact ih1 _ _ _ _ _ _ _ _ _
      | exact spec_plCells.mono _ _
      | exact LeO.none _
      | refine LeO.ite ?_ ?_
      | refine LeO.bind ?_ (fun _ => ?_)
set_option maxHeartbeats 8000000 in
set_option maxRecDepth 100000 in
theorem spec_plCrossing.calls (k : Nat) (A0 : Option Addr) (c0 : Nat) (l0 : List (List Int)) (r1 : List (S70)) (r2 : Bool) (w : World) (hr0 : Kd.C (Kd.slice 3 (Kd.int .i64)) w A0 l0.length l0) (hc0 : l0.length ≤ c0) (h : spec_plCrossing.f k l0 = some (r1, r2)) :
    Calls Try.prog 140 #[.slice A0 l0.length c0] w fun e w' => ∃ v0_ : Value, e = .returned (.tuple #[v0_, .bool r2]) ∧ Kd.R k70 70 w' w.heap.size (fun _ => True) v0_ r1 ∧ Below w.heap.size w w' := by
  have hu70 := Try.underlying70
  have HR0 := Aside0.mk hr0
  have HC0 := Aside0.mk hc0
  clear hr0 hc0
  have HB := Aside0.mk (Below.refl w.heap.size w)
  have H : ((spec_plCells.f k l0).bind fun t593 => (spec_plCrossing.l0 k t593 t593 (t593.length : Int) 0)) = some (r1, r2) := h
  clear h
  replace H := Option.bind_eq_some_iff.mp H
  obtain ⟨t593, A20, H⟩ := H
  replace H : (spec_plCrossing.l0 k t593 t593 (t593.length : Int) 0) = some (r1, r2) := H
  have A2 := Aside0.mk A20
  clear A20
  have H' := Aside0.mk H
  clear H
  go_enter Try.func140, Try.ntmps140
  go_wp2_with (first | ((with_reducible refine gate_callee (f := 210) rfl ?_); refine goesL_ (some 10) rfl rfl Try.func210 (by kernel_rfl) rfl #[.slice A0 l0.length c0] rfl (by (try simp only [List.map_toArray, List.map_cons, List.map_nil]); first | done | rfl | (simp only [List.length_drop, List.length_take]; rfl)) ?_; (with_reducible refine (spec_plCells.calls k _ _ l0 t593 _ ?side1 ?side2 A2.out).mono ?_); (case side1 => repeat (first | exact HR0.out | (with_reducible refine Kd.C_alloc ?_ _) | (with_reducible refine Kd.C_drewN ?_ _) | (with_reducible refine Kd.C_drew ?_))); (case side2 => exact HC0.out); rintro e w3 ⟨v594, rfl, ho0, hb⟩; refine ⟨_, rfl, ?_⟩; have n0_ := Aside0.mk (Kd.R_lower ho0 (below_size (by repeat (first | (with_reducible first | exact HB.out | apply below_alloc | apply pw_below_drewN | apply below_drew1) | exact HB.out)))); have n1_ := Aside0.mk (below_step (by repeat (first | (with_reducible first | exact HB.out | apply below_alloc | apply pw_below_drewN | apply below_drew1) | exact HB.out)) hb); clear HB; have HO595 := n0_; have HB := n1_; clear n0_ n1_; (try clear hb); (try clear hb2); (try clear hk); (try clear hi); (try clear ho0); obtain ⟨Ao4, co4, eo4⟩ := Kd.R_slice HO595.out; subst eo4))
  go_loopg [13] k (fun kq v13 w' => ∃ (x13_1 : Int), v13 = .int .i64 x13_1 ∧ Aside0 (spec_plCrossing.l0 kq t593 t593 (t593.length : Int) x13_1 = some (r1, r2)) ∧ Aside0 (kq ≤ k) ∧ Aside0 (Kd.R k70 70 w' w.heap.size (fun _ => True) (.slice Ao4 t593.length co4) t593) ∧ Aside0 (Kd.R k70 70 w' w.heap.size (fun _ => True) (.slice Ao4 t593.length co4) t593) ∧ Aside0 (Below w.heap.size w w'))
  case atStart => exact ⟨(0), (by first | rfl | (simp; done) | (simp [*]; done)), H', ⟨Nat.le_refl _⟩, ⟨by (with_reducible repeat (first | apply Kd.R_alloc | apply Kd.R_drewN | apply Kd.R_drew)); exact HO595.out⟩, ⟨by (with_reducible repeat (first | apply Kd.R_alloc | apply Kd.R_drewN | apply Kd.R_drew)); exact HO595.out⟩, ⟨by repeat (first | (with_reducible first | exact HB.out | apply below_alloc | apply pw_below_drewN | apply below_drew1) | exact HB.out)⟩⟩
  case round =>
    clear H'
    try clear c1
    try clear c2
    try clear p2
    obtain ⟨x13_1, rfl, HA, HK1, HO_4, HO_11, HB⟩ := hrel
    cases gk with
    | zero => exact absurd HA.out (by simp [spec_plCrossing.l0])
    | succ k1 =>
      have H := HA.out
      clear HA
      simp only [spec_plCrossing.l0] at H
      by_cases c5 : x13_1 < (t593.length : Int)
      · rw [if_pos c5] at H
        have c5b0 : decide (x13_1 < (t593.length : Int)) = true := decide_eq_true c5
        clear c5
        by_cases c6 : 0 ≤ x13_1
        · rw [if_pos c6] at H
          have c6b0 : decide (0 ≤ x13_1) = true := decide_eq_true c6
          clear c6
          by_cases c7 : x13_1 < (t593.length : Int)
          · rw [if_pos c7] at H
            have c7b0 : decide (x13_1 < (t593.length : Int)) = true := decide_eq_true c7
            clear c7
            have H' := Aside0.mk H
            clear H
            have p596 : 0 ≤ (x13_1 : Int) := of_decide_eq_true (by first | (with_reducible assumption) | assumption)
            have q596 : x13_1 < (t593.length : Int) := of_decide_eq_true (by first | (with_reducible assumption) | assumption)
            obtain ⟨ad596, e596, hx596_0, hx596_1⟩ := at_T70 (Kd.R_reads' HO_11.out).2.2 x13_1 p596 q596
            cases e596
            replace p596 := eq_true p596
            replace q596 := eq_true q596
            go_wp2_with (first | ((with_reducible refine gate_dst (N := 6) rfl ?_); refine box_event ?hg (N := 6) ?hd (cs := #[.int .i64 0, .int .i64 0]) (t := 70) ?hr ?_; (case hd => rfl); (case hg => rfl); (case hr => first | (go_simp; done) | (go_simp; rfl)); intro gb597 hg w8 hbox hb; have n0_ := Aside0.mk (Kd.R_below (Kd.R_elderB (by (with_reducible repeat (first | apply Kd.R_alloc | apply Kd.R_drewN | apply Kd.R_drew)); exact HO_4.out) gb597 (Nat.le_of_eq hg.symm)) hb); have n1_ := Aside0.mk (Kd.R_below (Kd.R_elderB (by (with_reducible repeat (first | apply Kd.R_alloc | apply Kd.R_drewN | apply Kd.R_drew)); exact HO_11.out) gb597 (Nat.le_of_eq hg.symm)) hb); have n2_ := Aside0.mk (below_step (by repeat (first | (with_reducible first | exact HB.out | apply below_alloc | apply pw_below_drewN | apply below_drew1) | exact HB.out)) hb); have n3_ := Aside0.mk (hbox); have n4_ := Aside0.mk ((by rw [hg]; exact (below_size (by repeat (first | (with_reducible first | exact HB.out | apply below_alloc | apply pw_below_drewN | apply below_drew1) | exact HB.out))) : w.heap.size ≤ gb597)); have n5_ := Aside0.mk ((by rw [hg]; exact (below_size (by repeat (first | (with_reducible first | exact HB.out | apply below_alloc | apply pw_below_drewN | apply below_drew1) | exact HB.out))) : w.heap.size ≤ gb597)); clear HO_4; clear HO_11; clear HB; have HO_4 := n0_; have HO_11 := n1_; have HB := n2_; have BK597 := n3_; have GW597 := n4_; have GE597 := n5_; clear n0_ n1_ n2_ n3_ n4_ n5_; clear hb hbox hg; have hcz9_0 : w8.cell? ⟨gb597, 0, none⟩ = some (.int .i64 0) := (blk_cell BK597.out 0).trans rfl; have hcz9_1 : w8.cell? ⟨gb597, 1, none⟩ = some (.int .i64 0) := (blk_cell BK597.out 1).trans rfl; have hfz9_0 := blk_frozen BK597.out 0; have hfz9_1 := blk_frozen BK597.out 1))
            go_loopg [19] k1 (fun kq v19 w' => ∃ (x19_2 : Int), v19 = .int .i64 x19_2 ∧ Aside0 (spec_plCrossing.l1 kq t593 t593 (t593.length : Int) x13_1 t593 (t593.length : Int) x19_2 ((rd_T70 t593 x13_1).f0) ((rd_T70 t593 x13_1).f1) = some (r1, r2)) ∧ Aside0 (kq ≤ k1) ∧ Aside0 (Kd.R k70 70 w' w.heap.size (fun k_ => k_ ≠ gb597) (.slice (some ad596) t593.length co4) t593) ∧ Aside0 (Kd.R k70 70 w' w.heap.size (fun k_ => k_ ≠ gb597) (.slice (some ad596) t593.length co4) t593) ∧ Aside0 (Kd.R k70 70 w' w.heap.size (fun k_ => k_ ≠ gb597) (.slice (some ad596) t593.length co4) t593) ∧ Aside0 (w'.heap[gb597]? = some (.cells #[.int .i64 ((rd_T70 t593 x13_1).f0), .int .i64 ((rd_T70 t593 x13_1).f1)] 70 (0, 0))) ∧ Aside0 (Below w.heap.size w w'))
            case atStart => exact ⟨(0), (by first | rfl | (simp; done) | (simp [*]; done)), H', ⟨Nat.le_refl _⟩, ⟨by (with_reducible repeat (first | apply Kd.R_alloc | apply Kd.R_drewN | apply Kd.R_drew)); exact Kd.R_mono (Kd.R_far (p := ⟨gb597, 1, none⟩) (Kd.R_far (p := ⟨gb597, 0, none⟩) (Kd.R_mono HO_4.out (fun k_ hk => (⟨hk, hk.2⟩ : _ ∧ k_ ≠ gb597))) (fun _ hk => hk.2) (.int .i64 ((rd_T70 t593 x13_1).f0))) (fun _ hk => hk.2) (.int .i64 ((rd_T70 t593 x13_1).f1))) (fun _ hk => hk.1.2)⟩, ⟨by (with_reducible repeat (first | apply Kd.R_alloc | apply Kd.R_drewN | apply Kd.R_drew)); exact Kd.R_mono (Kd.R_far (p := ⟨gb597, 1, none⟩) (Kd.R_far (p := ⟨gb597, 0, none⟩) (Kd.R_mono HO_11.out (fun k_ hk => (⟨hk, hk.2⟩ : _ ∧ k_ ≠ gb597))) (fun _ hk => hk.2) (.int .i64 ((rd_T70 t593 x13_1).f0))) (fun _ hk => hk.2) (.int .i64 ((rd_T70 t593 x13_1).f1))) (fun _ hk => hk.1.2)⟩, ⟨by (with_reducible repeat (first | apply Kd.R_alloc | apply Kd.R_drewN | apply Kd.R_drew)); exact Kd.R_mono (Kd.R_far (p := ⟨gb597, 1, none⟩) (Kd.R_far (p := ⟨gb597, 0, none⟩) (Kd.R_mono HO_4.out (fun k_ hk => (⟨hk, hk.2⟩ : _ ∧ k_ ≠ gb597))) (fun _ hk => hk.2) (.int .i64 ((rd_T70 t593 x13_1).f0))) (fun _ hk => hk.2) (.int .i64 ((rd_T70 t593 x13_1).f1))) (fun _ hk => hk.1.2)⟩, ⟨by (with_reducible repeat (first | refine blk_drewN ?_ _ | refine blk_drew ?_ | refine blk_alloc ?_ _)); refine blk_put (cs := #[.int .i64 ((rd_T70 t593 x13_1).f0), .int .i64 0]) ?_ 1 _ rfl; (with_reducible repeat (first | refine blk_drewN ?_ _ | refine blk_drew ?_ | refine blk_alloc ?_ _)); refine blk_put (cs := #[.int .i64 0, .int .i64 0]) ?_ 0 _ rfl; (with_reducible repeat (first | refine blk_drewN ?_ _ | refine blk_drew ?_ | refine blk_alloc ?_ _)); exact BK597.out⟩, ⟨by repeat (first | (with_reducible first | exact HB.out | apply below_alloc | apply pw_below_drewN | apply below_drew1 | refine below_set ?_ GE597.out) | exact HB.out)⟩⟩
            case round =>
              clear H'
              try clear c1
              try clear c2
              try clear p2
              try clear c5
              try clear c5b0
              try clear p5
              try clear q5
              try clear hx5
              try clear c6
              try clear c6b0
              try clear c7
              try clear c7b0
              try clear hcz9_0
              try clear hcz9_1
              try clear hfz9_0
              try clear hfz9_1
              try clear hx596_0
              try clear hx596_1
              try clear p2
              try clear p596
              try clear q596
              obtain ⟨x19_2, rfl, HA, HK2, HO_4, HO_11, HO_17, BK597, HB⟩ := hrel
              cases gk with
              | zero => exact absurd HA.out (by simp [spec_plCrossing.l1])
              | succ k2 =>
                have H := HA.out
                clear HA
                simp only [spec_plCrossing.l1] at H
                by_cases c10 : x19_2 < (t593.length : Int)
                · rw [if_pos c10] at H
                  have c10b0 : decide (x19_2 < (t593.length : Int)) = true := decide_eq_true c10
                  clear c10
                  by_cases c11 : 0 ≤ x19_2
                  · rw [if_pos c11] at H
                    have c11b0 : decide (0 ≤ x19_2) = true := decide_eq_true c11
                    clear c11
                    by_cases c12 : x19_2 < (t593.length : Int)
                    · rw [if_pos c12] at H
                      have c12b0 : decide (x19_2 < (t593.length : Int)) = true := decide_eq_true c12
                      clear c12
                      by_cases c13 : ((rd_T70 t593 x13_1).f0) < ((rd_T70 t593 x19_2).f0)
                      · rw [if_pos c13] at H
                        have c13b0 : decide (((rd_T70 t593 x13_1).f0) < ((rd_T70 t593 x19_2).f0)) = true := decide_eq_true c13
                        clear c13
                        by_cases c14 : ((rd_T70 t593 x13_1).f1) > ((rd_T70 t593 x19_2).f1)
                        · rw [if_pos c14] at H
                          have c14b0 : decide (((rd_T70 t593 x19_2).f1) < ((rd_T70 t593 x13_1).f1)) = true := decide_eq_true c14
                          clear c14
                          obtain ⟨y600, hy600⟩ : ∃ y_ : List (S70), y_ = (([(⟨((rd_T70 t593 x13_1).f0), ((rd_T70 t593 x13_1).f1)⟩ : S70), (⟨(rd_T70 t593 x19_2).f0, (rd_T70 t593 x19_2).f1⟩ : S70)] : List (S70))) := ⟨_, rfl⟩
                          replace H : (some (y600, true)) = some (r1, r2) := by first | (rw [hy600]; with_reducible exact H) | (have H2_ := (Option.bind_some _ _).symm.trans H; rw [hy600]; with_reducible exact H2_) | (have H2_ := (Option.bind_some _ _).symm.trans H; with_reducible exact H2_) | with_reducible exact H | (rw [hy600]; exact H) | exact H
                          have Ny600 := Aside0.mk hy600
                          clear hy600
                          simp only [Option.some.injEq, Prod.mk.injEq] at H
                          obtain ⟨rfl, rfl⟩ := H
                          have p598 : 0 ≤ (x19_2 : Int) := of_decide_eq_true (by first | (with_reducible assumption) | assumption)
                          have q598 : x19_2 < (t593.length : Int) := of_decide_eq_true (by first | (with_reducible assumption) | assumption)
                          obtain ⟨ad598, e598, hx598_0, hx598_1⟩ := at_T70 (Kd.R_reads' HO_17.out).2.2 x19_2 p598 q598
                          obtain rfl : ad596 = ad598 := (by injection e598)
                          replace p598 := eq_true p598
                          replace q598 := eq_true q598
                          go_wp2_with (first | ((with_reducible refine gate_dst (N := 8) rfl ?_); refine box_event ?hg (N := 8) ?hd (cs := #[.int .i64 0, .int .i64 0]) (t := 70) ?hr ?_; (case hd => rfl); (case hg => rfl); (case hr => first | (go_simp; done) | (go_simp; rfl)); intro gb599 hg w15 hbox hb; have n0_ := Aside0.mk (Kd.R_below (Kd.R_elderB (by (with_reducible repeat (first | apply Kd.R_alloc | apply Kd.R_drewN | apply Kd.R_drew)); exact HO_4.out) gb599 (Nat.le_of_eq hg.symm)) hb); have n1_ := Aside0.mk (Kd.R_below (Kd.R_elderB (by (with_reducible repeat (first | apply Kd.R_alloc | apply Kd.R_drewN | apply Kd.R_drew)); exact HO_11.out) gb599 (Nat.le_of_eq hg.symm)) hb); have n2_ := Aside0.mk (Kd.R_below (Kd.R_elderB (by (with_reducible repeat (first | apply Kd.R_alloc | apply Kd.R_drewN | apply Kd.R_drew)); exact HO_17.out) gb599 (Nat.le_of_eq hg.symm)) hb); have n3_ := Aside0.mk (blk_below (g := gb597) (o := .cells #[.int .i64 ((rd_T70 t593 x13_1).f0), .int .i64 ((rd_T70 t593 x13_1).f1)] 70 (0, 0)) (by (with_reducible repeat (first | refine blk_drewN ?_ _ | refine blk_drew ?_ | refine blk_alloc ?_ _)); exact BK597.out) hb); have n4_ := Aside0.mk (below_step (by repeat (first | (with_reducible first | exact HB.out | apply below_alloc | apply pw_below_drewN | apply below_drew1 | refine below_set ?_ GE597.out) | exact HB.out)) hb); have n5_ := Aside0.mk (hbox); have n6_ := Aside0.mk ((by rw [hg]; exact (below_size (by repeat (first | (with_reducible first | exact HB.out | apply below_alloc | apply pw_below_drewN | apply below_drew1 | refine below_set ?_ GE597.out) | exact HB.out))) : w.heap.size ≤ gb599)); have n7_ := Aside0.mk ((by rw [hg]; exact (below_size (by repeat (first | (with_reducible first | exact HB.out | apply below_alloc | apply pw_below_drewN | apply below_drew1 | refine below_set ?_ GE597.out) | exact HB.out))) : w.heap.size ≤ gb599)); have n8_ := Aside0.mk ((by rw [hg]; exact Nat.ne_of_lt (blk_lt (g := gb597) (o := .cells #[.int .i64 ((rd_T70 t593 x13_1).f0), .int .i64 ((rd_T70 t593 x13_1).f1)] 70 (0, 0)) (by (with_reducible repeat (first | refine blk_drewN ?_ _ | refine blk_drew ?_ | refine blk_alloc ?_ _)); exact BK597.out)) : gb597 ≠ gb599)); have n9_ := Aside0.mk ((by rw [hg]; exact Nat.ne_of_gt (blk_lt (g := gb597) (o := .cells #[.int .i64 ((rd_T70 t593 x13_1).f0), .int .i64 ((rd_T70 t593 x13_1).f1)] 70 (0, 0)) (by (with_reducible repeat (first | refine blk_drewN ?_ _ | refine blk_drew ?_ | refine blk_alloc ?_ _)); exact BK597.out)) : gb599 ≠ gb597)); clear HO_4; clear HO_11; clear HO_17; clear BK597; clear HB; have HO_4 := n0_; have HO_11 := n1_; have HO_17 := n2_; have BK597 := n3_; have HB := n4_; have BK599 := n5_; have GW599 := n6_; have GE599 := n7_; have NB597_599 := n8_; have NB599_597 := n9_; clear n0_ n1_ n2_ n3_ n4_ n5_ n6_ n7_ n8_ n9_; clear hb hbox hg; have hnb16 := NB599_597.out; have hnc16 := NB597_599.out; have hcz17_0 : w15.cell? ⟨gb599, 0, none⟩ = some (.int .i64 0) := (blk_cell BK599.out 0).trans rfl; have hcz17_1 : w15.cell? ⟨gb599, 1, none⟩ = some (.int .i64 0) := (blk_cell BK599.out 1).trans rfl; have hfz17_0 := blk_frozen BK599.out 0; have hfz17_1 := blk_frozen BK599.out 1; have hcz18_0 : w15.cell? ⟨gb597, 0, none⟩ = some (.int .i64 ((rd_T70 t593 x13_1).f0)) := (blk_cell BK597.out 0).trans rfl; have hcz18_1 : w15.cell? ⟨gb597, 1, none⟩ = some (.int .i64 ((rd_T70 t593 x13_1).f1)) := (blk_cell BK597.out 1).trans rfl; have hfz18_0 := blk_frozen BK597.out 0; have hfz18_1 := blk_frozen BK597.out 1) | ((with_reducible refine gate_dst (N := 37) rfl ?_); refine Kd.R_lit k70 _ 70 ?hg (N := 37) ?hd (xs := ([(⟨((rd_T70 t593 x13_1).f0), ((rd_T70 t593 x13_1).f1)⟩ : S70), (⟨(rd_T70 t593 x19_2).f0, (rd_T70 t593 x19_2).f1⟩ : S70)] : List (S70))) (inner := [.int .i64 ((rd_T70 t593 x13_1).f0), .int .i64 ((rd_T70 t593 x13_1).f1), .int .i64 ((rd_T70 t593 x19_2).f0), .int .i64 ((rd_T70 t593 x19_2).f1)]) (ok := fun _ => True) (okp := fun _ => True) ?hr ?hp (fun _ hk => hk) trivial (Below.refl _ _) (Nat.le_refl _) (by simp) ?_; (case hd => rfl); (case hg => rfl); (case hr => first | (go_simp; done) | (go_simp; rfl)); (case hp => exact (Reps.c2 (show Kd.M k70 _ _ _ (⟨((rd_T70 t593 x13_1).f0), ((rd_T70 t593 x13_1).f1)⟩ : S70) [.int .i64 ((rd_T70 t593 x13_1).f0), .int .i64 ((rd_T70 t593 x13_1).f1)] from (k70_mkM _ _ _ (⟨((rd_T70 t593 x13_1).f0), ((rd_T70 t593 x13_1).f1)⟩ : S70) )) (Reps.c2 (show Kd.M k70 _ _ _ (⟨(rd_T70 t593 x19_2).f0, (rd_T70 t593 x19_2).f1⟩ : S70) [.int .i64 ((rd_T70 t593 x19_2).f0), .int .i64 ((rd_T70 t593 x19_2).f1)] from (k70_mkM _ _ _ (⟨(rd_T70 t593 x19_2).f0, (rd_T70 t593 x19_2).f1⟩ : S70) )) (Reps.none _ _)))); intro v601 w19 ho20 hb hg_ hnew_; clear hg_ hnew_; (first | rw [← Ny600.out] at ho20 | (simp only [Int.reduceToNat] at ho20; rw [← Ny600.out] at ho20)); have n0_ := Aside0.mk (Kd.R_elder' (by (with_reducible repeat (first | apply Kd.R_alloc | apply Kd.R_drewN | apply Kd.R_drew)); exact (Kd.R_mono (Kd.R_far (p := ⟨gb599, 1, none⟩) (Kd.R_far (p := ⟨gb599, 0, none⟩) (Kd.R_mono HO_4.out (fun k_ hk => (⟨hk, hk.2⟩ : _ ∧ k_ ≠ gb599))) (fun _ hk => hk.2) (.int .i64 ((rd_T70 t593 x19_2).f0))) (fun _ hk => hk.2) (.int .i64 ((rd_T70 t593 x19_2).f1))) (fun _ h_ => h_.1))) (Kd.R_base ho20) hb); have n1_ := Aside0.mk (Kd.R_elder' (by (with_reducible repeat (first | apply Kd.R_alloc | apply Kd.R_drewN | apply Kd.R_drew)); exact (Kd.R_mono (Kd.R_far (p := ⟨gb599, 1, none⟩) (Kd.R_far (p := ⟨gb599, 0, none⟩) (Kd.R_mono HO_11.out (fun k_ hk => (⟨hk, hk.2⟩ : _ ∧ k_ ≠ gb599))) (fun _ hk => hk.2) (.int .i64 ((rd_T70 t593 x19_2).f0))) (fun _ hk => hk.2) (.int .i64 ((rd_T70 t593 x19_2).f1))) (fun _ h_ => h_.1))) (Kd.R_base ho20) hb); have n2_ := Aside0.mk (Kd.R_elder' (by (with_reducible repeat (first | apply Kd.R_alloc | apply Kd.R_drewN | apply Kd.R_drew)); exact (Kd.R_mono (Kd.R_far (p := ⟨gb599, 1, none⟩) (Kd.R_far (p := ⟨gb599, 0, none⟩) (Kd.R_mono HO_17.out (fun k_ hk => (⟨hk, hk.2⟩ : _ ∧ k_ ≠ gb599))) (fun _ hk => hk.2) (.int .i64 ((rd_T70 t593 x19_2).f0))) (fun _ hk => hk.2) (.int .i64 ((rd_T70 t593 x19_2).f1))) (fun _ h_ => h_.1))) (Kd.R_base ho20) hb); have n3_ := Aside0.mk (Kd.R_lower (Kd.R_newB (Kd.R_newB (Kd.R_new' (Kd.R_new' (Kd.R_new' ho20 (Kd.R_lt (by (with_reducible repeat (first | apply Kd.R_alloc | apply Kd.R_drewN | apply Kd.R_drew)); exact (Kd.R_mono (Kd.R_far (p := ⟨gb599, 1, none⟩) (Kd.R_far (p := ⟨gb599, 0, none⟩) (Kd.R_mono HO_4.out (fun k_ hk => (⟨hk, hk.2⟩ : _ ∧ k_ ≠ gb599))) (fun _ hk => hk.2) (.int .i64 ((rd_T70 t593 x19_2).f0))) (fun _ hk => hk.2) (.int .i64 ((rd_T70 t593 x19_2).f1))) (fun _ h_ => h_.1))))) (Kd.R_lt (by (with_reducible repeat (first | apply Kd.R_alloc | apply Kd.R_drewN | apply Kd.R_drew)); exact (Kd.R_mono (Kd.R_far (p := ⟨gb599, 1, none⟩) (Kd.R_far (p := ⟨gb599, 0, none⟩) (Kd.R_mono HO_11.out (fun k_ hk => (⟨hk, hk.2⟩ : _ ∧ k_ ≠ gb599))) (fun _ hk => hk.2) (.int .i64 ((rd_T70 t593 x19_2).f0))) (fun _ hk => hk.2) (.int .i64 ((rd_T70 t593 x19_2).f1))) (fun _ h_ => h_.1))))) (Kd.R_lt (by (with_reducible repeat (first | apply Kd.R_alloc | apply Kd.R_drewN | apply Kd.R_drew)); exact (Kd.R_mono (Kd.R_far (p := ⟨gb599, 1, none⟩) (Kd.R_far (p := ⟨gb599, 0, none⟩) (Kd.R_mono HO_17.out (fun k_ hk => (⟨hk, hk.2⟩ : _ ∧ k_ ≠ gb599))) (fun _ hk => hk.2) (.int .i64 ((rd_T70 t593 x19_2).f0))) (fun _ hk => hk.2) (.int .i64 ((rd_T70 t593 x19_2).f1))) (fun _ h_ => h_.1))))) (g := gb597) (o := .cells #[.int .i64 ((rd_T70 t593 x13_1).f0), .int .i64 ((rd_T70 t593 x13_1).f1)] 70 (0, 0)) (by (with_reducible repeat (first | refine blk_drewN ?_ _ | refine blk_drew ?_ | refine blk_alloc ?_ _)); refine blk_far ?_ NB597_599.out _; (with_reducible repeat (first | refine blk_drewN ?_ _ | refine blk_drew ?_ | refine blk_alloc ?_ _)); refine blk_far ?_ NB597_599.out _; (with_reducible repeat (first | refine blk_drewN ?_ _ | refine blk_drew ?_ | refine blk_alloc ?_ _)); exact BK597.out)) (g := gb599) (o := .cells #[.int .i64 ((rd_T70 t593 x19_2).f0), .int .i64 ((rd_T70 t593 x19_2).f1)] 70 (0, 0)) (by (with_reducible repeat (first | refine blk_drewN ?_ _ | refine blk_drew ?_ | refine blk_alloc ?_ _)); refine blk_put (cs := #[.int .i64 ((rd_T70 t593 x19_2).f0), .int .i64 0]) ?_ 1 _ rfl; (with_reducible repeat (first | refine blk_drewN ?_ _ | refine blk_drew ?_ | refine blk_alloc ?_ _)); refine blk_put (cs := #[.int .i64 0, .int .i64 0]) ?_ 0 _ rfl; (with_reducible repeat (first | refine blk_drewN ?_ _ | refine blk_drew ?_ | refine blk_alloc ?_ _)); exact BK599.out)) (below_size (by repeat (first | (with_reducible first | exact HB.out | apply below_alloc | apply pw_below_drewN | apply below_drew1 | refine below_set ?_ GE597.out | refine below_set ?_ GE599.out) | exact HB.out)))); have n4_ := Aside0.mk (blk_below (g := gb597) (o := .cells #[.int .i64 ((rd_T70 t593 x13_1).f0), .int .i64 ((rd_T70 t593 x13_1).f1)] 70 (0, 0)) (by (with_reducible repeat (first | refine blk_drewN ?_ _ | refine blk_drew ?_ | refine blk_alloc ?_ _)); refine blk_far ?_ NB597_599.out _; (with_reducible repeat (first | refine blk_drewN ?_ _ | refine blk_drew ?_ | refine blk_alloc ?_ _)); refine blk_far ?_ NB597_599.out _; (with_reducible repeat (first | refine blk_drewN ?_ _ | refine blk_drew ?_ | refine blk_alloc ?_ _)); exact BK597.out) hb); have n5_ := Aside0.mk (blk_below (g := gb599) (o := .cells #[.int .i64 ((rd_T70 t593 x19_2).f0), .int .i64 ((rd_T70 t593 x19_2).f1)] 70 (0, 0)) (by (with_reducible repeat (first | refine blk_drewN ?_ _ | refine blk_drew ?_ | refine blk_alloc ?_ _)); refine blk_put (cs := #[.int .i64 ((rd_T70 t593 x19_2).f0), .int .i64 0]) ?_ 1 _ rfl; (with_reducible repeat (first | refine blk_drewN ?_ _ | refine blk_drew ?_ | refine blk_alloc ?_ _)); refine blk_put (cs := #[.int .i64 0, .int .i64 0]) ?_ 0 _ rfl; (with_reducible repeat (first | refine blk_drewN ?_ _ | refine blk_drew ?_ | refine blk_alloc ?_ _)); exact BK599.out) hb); have n6_ := Aside0.mk (below_step (by repeat (first | (with_reducible first | exact HB.out | apply below_alloc | apply pw_below_drewN | apply below_drew1 | refine below_set ?_ GE597.out | refine below_set ?_ GE599.out) | exact HB.out)) hb); clear HO_4; clear HO_11; clear HO_17; clear BK597; clear BK599; clear HB; have HO_4 := n0_; have HO_11 := n1_; have HO_17 := n2_; have HO602 := n3_; have BK597 := n4_; have BK599 := n5_; have HB := n6_; clear n0_ n1_ n2_ n3_ n4_ n5_ n6_; clear hb ho20))
                          go_ret2
                          exact ⟨_, by first | rfl | (simp [errW_none, errW_some] <;> rfl) | (simp [*, errW_none, errW_some] <;> rfl), by (with_reducible repeat (first | apply Kd.R_alloc | apply Kd.R_drewN | apply Kd.R_drew)); exact Kd.R_mono HO602.out (fun _ hk => trivial), by repeat (first | (with_reducible first | exact HB.out | apply below_alloc | apply pw_below_drewN | apply below_drew1 | refine below_set ?_ GE597.out | refine below_set ?_ GE599.out) | exact HB.out)⟩
                        · rw [if_neg c14] at H
                          have c14b0 : decide (((rd_T70 t593 x19_2).f1) < ((rd_T70 t593 x13_1).f1)) = false := decide_eq_false c14
                          clear c14
                          have H' := Aside0.mk H
                          clear H
                          have p598 : 0 ≤ (x19_2 : Int) := of_decide_eq_true (by first | (with_reducible assumption) | assumption)
                          have q598 : x19_2 < (t593.length : Int) := of_decide_eq_true (by first | (with_reducible assumption) | assumption)
                          obtain ⟨ad598, e598, hx598_0, hx598_1⟩ := at_T70 (Kd.R_reads' HO_17.out).2.2 x19_2 p598 q598
                          obtain rfl : ad596 = ad598 := (by injection e598)
                          replace p598 := eq_true p598
                          replace q598 := eq_true q598
                          go_wp2_with (first | ((with_reducible refine gate_dst (N := 8) rfl ?_); refine box_event ?hg (N := 8) ?hd (cs := #[.int .i64 0, .int .i64 0]) (t := 70) ?hr ?_; (case hd => rfl); (case hg => rfl); (case hr => first | (go_simp; done) | (go_simp; rfl)); intro gb599 hg w21 hbox hb; have n0_ := Aside0.mk (Kd.R_below (Kd.R_elderB (by (with_reducible repeat (first | apply Kd.R_alloc | apply Kd.R_drewN | apply Kd.R_drew)); exact HO_4.out) gb599 (Nat.le_of_eq hg.symm)) hb); have n1_ := Aside0.mk (Kd.R_below (Kd.R_elderB (by (with_reducible repeat (first | apply Kd.R_alloc | apply Kd.R_drewN | apply Kd.R_drew)); exact HO_11.out) gb599 (Nat.le_of_eq hg.symm)) hb); have n2_ := Aside0.mk (Kd.R_below (Kd.R_elderB (by (with_reducible repeat (first | apply Kd.R_alloc | apply Kd.R_drewN | apply Kd.R_drew)); exact HO_17.out) gb599 (Nat.le_of_eq hg.symm)) hb); have n3_ := Aside0.mk (blk_below (g := gb597) (o := .cells #[.int .i64 ((rd_T70 t593 x13_1).f0), .int .i64 ((rd_T70 t593 x13_1).f1)] 70 (0, 0)) (by (with_reducible repeat (first | refine blk_drewN ?_ _ | refine blk_drew ?_ | refine blk_alloc ?_ _)); exact BK597.out) hb); have n4_ := Aside0.mk (below_step (by repeat (first | (with_reducible first | exact HB.out | apply below_alloc | apply pw_below_drewN | apply below_drew1 | refine below_set ?_ GE597.out) | exact HB.out)) hb); have n5_ := Aside0.mk (hbox); have n6_ := Aside0.mk ((by rw [hg]; exact (below_size (by repeat (first | (with_reducible first | exact HB.out | apply below_alloc | apply pw_below_drewN | apply below_drew1 | refine below_set ?_ GE597.out) | exact HB.out))) : w.heap.size ≤ gb599)); have n7_ := Aside0.mk ((by rw [hg]; exact (below_size (by repeat (first | (with_reducible first | exact HB.out | apply below_alloc | apply pw_below_drewN | apply below_drew1 | refine below_set ?_ GE597.out) | exact HB.out))) : w.heap.size ≤ gb599)); have n8_ := Aside0.mk ((by rw [hg]; exact Nat.ne_of_lt (blk_lt (g := gb597) (o := .cells #[.int .i64 ((rd_T70 t593 x13_1).f0), .int .i64 ((rd_T70 t593 x13_1).f1)] 70 (0, 0)) (by (with_reducible repeat (first | refine blk_drewN ?_ _ | refine blk_drew ?_ | refine blk_alloc ?_ _)); exact BK597.out)) : gb597 ≠ gb599)); have n9_ := Aside0.mk ((by rw [hg]; exact Nat.ne_of_gt (blk_lt (g := gb597) (o := .cells #[.int .i64 ((rd_T70 t593 x13_1).f0), .int .i64 ((rd_T70 t593 x13_1).f1)] 70 (0, 0)) (by (with_reducible repeat (first | refine blk_drewN ?_ _ | refine blk_drew ?_ | refine blk_alloc ?_ _)); exact BK597.out)) : gb599 ≠ gb597)); clear HO_4; clear HO_11; clear HO_17; clear BK597; clear HB; have HO_4 := n0_; have HO_11 := n1_; have HO_17 := n2_; have BK597 := n3_; have HB := n4_; have BK599 := n5_; have GW599 := n6_; have GE599 := n7_; have NB597_599 := n8_; have NB599_597 := n9_; clear n0_ n1_ n2_ n3_ n4_ n5_ n6_ n7_ n8_ n9_; clear hb hbox hg; have hnb22 := NB599_597.out; have hnc22 := NB597_599.out; have hcz23_0 : w21.cell? ⟨gb599, 0, none⟩ = some (.int .i64 0) := (blk_cell BK599.out 0).trans rfl; have hcz23_1 : w21.cell? ⟨gb599, 1, none⟩ = some (.int .i64 0) := (blk_cell BK599.out 1).trans rfl; have hfz23_0 := blk_frozen BK599.out 0; have hfz23_1 := blk_frozen BK599.out 1; have hcz24_0 : w21.cell? ⟨gb597, 0, none⟩ = some (.int .i64 ((rd_T70 t593 x13_1).f0)) := (blk_cell BK597.out 0).trans rfl; have hcz24_1 : w21.cell? ⟨gb597, 1, none⟩ = some (.int .i64 ((rd_T70 t593 x13_1).f1)) := (blk_cell BK597.out 1).trans rfl; have hfz24_0 := blk_frozen BK597.out 0; have hfz24_1 := blk_frozen BK597.out 1))
                          go_roundg k2
                          case measure => have := HK1.out; have := HK2.out; omega
                          case rel => exact ⟨(wrap64 (x19_2 + 1)), (by first | rfl | (simp; done) | (simp [*]; done)), H', ⟨by have := HK1.out; have := HK2.out; omega⟩, ⟨by (with_reducible repeat (first | apply Kd.R_alloc | apply Kd.R_drewN | apply Kd.R_drew)); exact Kd.R_mono (Kd.R_far (p := ⟨gb599, 1, none⟩) (Kd.R_far (p := ⟨gb599, 0, none⟩) (Kd.R_mono HO_4.out (fun k_ hk => (⟨hk, hk.2⟩ : _ ∧ k_ ≠ gb599))) (fun _ hk => hk.2) (.int .i64 ((rd_T70 t593 x19_2).f0))) (fun _ hk => hk.2) (.int .i64 ((rd_T70 t593 x19_2).f1))) (fun _ hk => hk.1.1)⟩, ⟨by (with_reducible repeat (first | apply Kd.R_alloc | apply Kd.R_drewN | apply Kd.R_drew)); exact Kd.R_mono (Kd.R_far (p := ⟨gb599, 1, none⟩) (Kd.R_far (p := ⟨gb599, 0, none⟩) (Kd.R_mono HO_11.out (fun k_ hk => (⟨hk, hk.2⟩ : _ ∧ k_ ≠ gb599))) (fun _ hk => hk.2) (.int .i64 ((rd_T70 t593 x19_2).f0))) (fun _ hk => hk.2) (.int .i64 ((rd_T70 t593 x19_2).f1))) (fun _ hk => hk.1.1)⟩, ⟨by (with_reducible repeat (first | apply Kd.R_alloc | apply Kd.R_drewN | apply Kd.R_drew)); exact Kd.R_mono (Kd.R_far (p := ⟨gb599, 1, none⟩) (Kd.R_far (p := ⟨gb599, 0, none⟩) (Kd.R_mono HO_17.out (fun k_ hk => (⟨hk, hk.2⟩ : _ ∧ k_ ≠ gb599))) (fun _ hk => hk.2) (.int .i64 ((rd_T70 t593 x19_2).f0))) (fun _ hk => hk.2) (.int .i64 ((rd_T70 t593 x19_2).f1))) (fun _ hk => hk.1.1)⟩, ⟨by (with_reducible repeat (first | refine blk_drewN ?_ _ | refine blk_drew ?_ | refine blk_alloc ?_ _)); refine blk_far ?_ NB597_599.out _; (with_reducible repeat (first | refine blk_drewN ?_ _ | refine blk_drew ?_ | refine blk_alloc ?_ _)); refine blk_far ?_ NB597_599.out _; (with_reducible repeat (first | refine blk_drewN ?_ _ | refine blk_drew ?_ | refine blk_alloc ?_ _)); exact BK597.out⟩, ⟨by repeat (first | (with_reducible first | exact HB.out | apply below_alloc | apply pw_below_drewN | apply below_drew1 | refine below_set ?_ GE597.out | refine below_set ?_ GE599.out) | exact HB.out)⟩⟩
                      · rw [if_neg c13] at H
                        have c13b0 : decide (((rd_T70 t593 x13_1).f0) < ((rd_T70 t593 x19_2).f0)) = false := decide_eq_false c13
                        clear c13
                        have H' := Aside0.mk H
                        clear H
                        have p598 : 0 ≤ (x19_2 : Int) := of_decide_eq_true (by first | (with_reducible assumption) | assumption)
                        have q598 : x19_2 < (t593.length : Int) := of_decide_eq_true (by first | (with_reducible assumption) | assumption)
                        obtain ⟨ad598, e598, hx598_0, hx598_1⟩ := at_T70 (Kd.R_reads' HO_17.out).2.2 x19_2 p598 q598
                        obtain rfl : ad596 = ad598 := (by injection e598)
                        replace p598 := eq_true p598
                        replace q598 := eq_true q598
                        go_wp2_with (first | ((with_reducible refine gate_dst (N := 8) rfl ?_); refine box_event ?hg (N := 8) ?hd (cs := #[.int .i64 0, .int .i64 0]) (t := 70) ?hr ?_; (case hd => rfl); (case hg => rfl); (case hr => first | (go_simp; done) | (go_simp; rfl)); intro gb599 hg w25 hbox hb; have n0_ := Aside0.mk (Kd.R_below (Kd.R_elderB (by (with_reducible repeat (first | apply Kd.R_alloc | apply Kd.R_drewN | apply Kd.R_drew)); exact HO_4.out) gb599 (Nat.le_of_eq hg.symm)) hb); have n1_ := Aside0.mk (Kd.R_below (Kd.R_elderB (by (with_reducible repeat (first | apply Kd.R_alloc | apply Kd.R_drewN | apply Kd.R_drew)); exact HO_11.out) gb599 (Nat.le_of_eq hg.symm)) hb); have n2_ := Aside0.mk (Kd.R_below (Kd.R_elderB (by (with_reducible repeat (first | apply Kd.R_alloc | apply Kd.R_drewN | apply Kd.R_drew)); exact HO_17.out) gb599 (Nat.le_of_eq hg.symm)) hb); have n3_ := Aside0.mk (blk_below (g := gb597) (o := .cells #[.int .i64 ((rd_T70 t593 x13_1).f0), .int .i64 ((rd_T70 t593 x13_1).f1)] 70 (0, 0)) (by (with_reducible repeat (first | refine blk_drewN ?_ _ | refine blk_drew ?_ | refine blk_alloc ?_ _)); exact BK597.out) hb); have n4_ := Aside0.mk (below_step (by repeat (first | (with_reducible first | exact HB.out | apply below_alloc | apply pw_below_drewN | apply below_drew1 | refine below_set ?_ GE597.out) | exact HB.out)) hb); have n5_ := Aside0.mk (hbox); have n6_ := Aside0.mk ((by rw [hg]; exact (below_size (by repeat (first | (with_reducible first | exact HB.out | apply below_alloc | apply pw_below_drewN | apply below_drew1 | refine below_set ?_ GE597.out) | exact HB.out))) : w.heap.size ≤ gb599)); have n7_ := Aside0.mk ((by rw [hg]; exact (below_size (by repeat (first | (with_reducible first | exact HB.out | apply below_alloc | apply pw_below_drewN | apply below_drew1 | refine below_set ?_ GE597.out) | exact HB.out))) : w.heap.size ≤ gb599)); have n8_ := Aside0.mk ((by rw [hg]; exact Nat.ne_of_lt (blk_lt (g := gb597) (o := .cells #[.int .i64 ((rd_T70 t593 x13_1).f0), .int .i64 ((rd_T70 t593 x13_1).f1)] 70 (0, 0)) (by (with_reducible repeat (first | refine blk_drewN ?_ _ | refine blk_drew ?_ | refine blk_alloc ?_ _)); exact BK597.out)) : gb597 ≠ gb599)); have n9_ := Aside0.mk ((by rw [hg]; exact Nat.ne_of_gt (blk_lt (g := gb597) (o := .cells #[.int .i64 ((rd_T70 t593 x13_1).f0), .int .i64 ((rd_T70 t593 x13_1).f1)] 70 (0, 0)) (by (with_reducible repeat (first | refine blk_drewN ?_ _ | refine blk_drew ?_ | refine blk_alloc ?_ _)); exact BK597.out)) : gb599 ≠ gb597)); clear HO_4; clear HO_11; clear HO_17; clear BK597; clear HB; have HO_4 := n0_; have HO_11 := n1_; have HO_17 := n2_; have BK597 := n3_; have HB := n4_; have BK599 := n5_; have GW599 := n6_; have GE599 := n7_; have NB597_599 := n8_; have NB599_597 := n9_; clear n0_ n1_ n2_ n3_ n4_ n5_ n6_ n7_ n8_ n9_; clear hb hbox hg; have hnb26 := NB599_597.out; have hnc26 := NB597_599.out; have hcz27_0 : w25.cell? ⟨gb599, 0, none⟩ = some (.int .i64 0) := (blk_cell BK599.out 0).trans rfl; have hcz27_1 : w25.cell? ⟨gb599, 1, none⟩ = some (.int .i64 0) := (blk_cell BK599.out 1).trans rfl; have hfz27_0 := blk_frozen BK599.out 0; have hfz27_1 := blk_frozen BK599.out 1; have hcz28_0 : w25.cell? ⟨gb597, 0, none⟩ = some (.int .i64 ((rd_T70 t593 x13_1).f0)) := (blk_cell BK597.out 0).trans rfl; have hcz28_1 : w25.cell? ⟨gb597, 1, none⟩ = some (.int .i64 ((rd_T70 t593 x13_1).f1)) := (blk_cell BK597.out 1).trans rfl; have hfz28_0 := blk_frozen BK597.out 0; have hfz28_1 := blk_frozen BK597.out 1))
                        go_roundg k2
                        case measure => have := HK1.out; have := HK2.out; omega
                        case rel => exact ⟨(wrap64 (x19_2 + 1)), (by first | rfl | (simp; done) | (simp [*]; done)), H', ⟨by have := HK1.out; have := HK2.out; omega⟩, ⟨by (with_reducible repeat (first | apply Kd.R_alloc | apply Kd.R_drewN | apply Kd.R_drew)); exact Kd.R_mono (Kd.R_far (p := ⟨gb599, 1, none⟩) (Kd.R_far (p := ⟨gb599, 0, none⟩) (Kd.R_mono HO_4.out (fun k_ hk => (⟨hk, hk.2⟩ : _ ∧ k_ ≠ gb599))) (fun _ hk => hk.2) (.int .i64 ((rd_T70 t593 x19_2).f0))) (fun _ hk => hk.2) (.int .i64 ((rd_T70 t593 x19_2).f1))) (fun _ hk => hk.1.1)⟩, ⟨by (with_reducible repeat (first | apply Kd.R_alloc | apply Kd.R_drewN | apply Kd.R_drew)); exact Kd.R_mono (Kd.R_far (p := ⟨gb599, 1, none⟩) (Kd.R_far (p := ⟨gb599, 0, none⟩) (Kd.R_mono HO_11.out (fun k_ hk => (⟨hk, hk.2⟩ : _ ∧ k_ ≠ gb599))) (fun _ hk => hk.2) (.int .i64 ((rd_T70 t593 x19_2).f0))) (fun _ hk => hk.2) (.int .i64 ((rd_T70 t593 x19_2).f1))) (fun _ hk => hk.1.1)⟩, ⟨by (with_reducible repeat (first | apply Kd.R_alloc | apply Kd.R_drewN | apply Kd.R_drew)); exact Kd.R_mono (Kd.R_far (p := ⟨gb599, 1, none⟩) (Kd.R_far (p := ⟨gb599, 0, none⟩) (Kd.R_mono HO_17.out (fun k_ hk => (⟨hk, hk.2⟩ : _ ∧ k_ ≠ gb599))) (fun _ hk => hk.2) (.int .i64 ((rd_T70 t593 x19_2).f0))) (fun _ hk => hk.2) (.int .i64 ((rd_T70 t593 x19_2).f1))) (fun _ hk => hk.1.1)⟩, ⟨by (with_reducible repeat (first | refine blk_drewN ?_ _ | refine blk_drew ?_ | refine blk_alloc ?_ _)); refine blk_far ?_ NB597_599.out _; (with_reducible repeat (first | refine blk_drewN ?_ _ | refine blk_drew ?_ | refine blk_alloc ?_ _)); refine blk_far ?_ NB597_599.out _; (with_reducible repeat (first | refine blk_drewN ?_ _ | refine blk_drew ?_ | refine blk_alloc ?_ _)); exact BK597.out⟩, ⟨by repeat (first | (with_reducible first | exact HB.out | apply below_alloc | apply pw_below_drewN | apply below_drew1 | refine below_set ?_ GE597.out | refine below_set ?_ GE599.out) | exact HB.out)⟩⟩
                    · rw [if_neg c12] at H
                      exact absurd H (by simp)
                  · rw [if_neg c11] at H
                    exact absurd H (by simp)
                · rw [if_neg c10] at H
                  have c10b0 : decide (x19_2 < (t593.length : Int)) = false := decide_eq_false c10
                  clear c10
                  have H' := Aside0.mk H
                  clear H
                  go_wp2
                  go_roundg k2
                  case measure => have := HK1.out; have := HK2.out; omega
                  case rel => exact ⟨(wrap64 (x13_1 + 1)), (by first | rfl | (simp; done) | (simp [*]; done)), H', ⟨by have := HK1.out; have := HK2.out; omega⟩, ⟨by (with_reducible repeat (first | apply Kd.R_alloc | apply Kd.R_drewN | apply Kd.R_drew)); exact Kd.R_mono HO_4.out (fun _ hk => trivial)⟩, ⟨by (with_reducible repeat (first | apply Kd.R_alloc | apply Kd.R_drewN | apply Kd.R_drew)); exact Kd.R_mono HO_11.out (fun _ hk => trivial)⟩, ⟨by repeat (first | (with_reducible first | exact HB.out | apply below_alloc | apply pw_below_drewN | apply below_drew1 | refine below_set ?_ GE597.out) | exact HB.out)⟩⟩
          · rw [if_neg c7] at H
            exact absurd H (by simp)
        · rw [if_neg c6] at H
          exact absurd H (by simp)
      · rw [if_neg c5] at H
        have c5b0 : decide (x13_1 < (t593.length : Int)) = false := decide_eq_false c5
        clear c5
        simp only [Option.some.injEq, Prod.mk.injEq] at H
        obtain ⟨rfl, rfl⟩ := H
        go_wp2
        go_ret2
        exact ⟨_, by first | rfl | (simp [errW_none, errW_some] <;> rfl) | (simp [*, errW_none, errW_some] <;> rfl), by first | exact Kd.R_nil _ _ _ _ _ | exact Kd.N_nil _ _ _ _ _ | exact Kd.V_nil _ _ _ _ _ | exact Kd.Q_nil _ _ _ _ _ | exact Kd.S_nil _ _ _ _ _, by repeat (first | (with_reducible first | exact HB.out | apply below_alloc | apply pw_below_drewN | apply below_drew1) | exact HB.out)⟩

end Go.Proofs.Ytllnieknogficaa.K
namespace Go.Proofs.Ytllnieknogficaa.K
open Go.RowKit Go.Proofs.YtllnieknogficaaW.PrintWords Go.Proofs.YtllnieknogficaaW.PrintLast Go.Proofs.YtllnieknogficaaW.PrintMore
attribute [local go_sem] max2_int min2_int max_two min_two max_three min_three max_four min_four   -- for this text's walks alone
set_option linter.unusedVariables false
set_option linter.unusedSimpArgs false

/-! ### spec_CrossingOf: function 50 -/
def spec_CrossingOf.f (k : Nat) (l0 : List (List Int)) : Option ((List (S70)) × Bool) := (spec_plGood.f k l0).bind fun t603 => (if t603 = true then ((spec_plCrossing.f k l0).bind fun bt604 => (some (bt604.1, bt604.2))) else (some (([] : List (S70)), false)))
theorem spec_CrossingOf.mono : ∀ a0 k, LeO (spec_CrossingOf.f k a0) (spec_CrossingOf.f (k + 1) a0) := by
  intro a0 k
  unfold spec_CrossingOf.f
  repeat' first
      | (with_reducible exact spec_plCrossing.mono _ _)
      | (with_reducible exact spec_plGood.mono _ _)
      | (with_reducible exact LeO.refl _)
      | (with_reducible exact LeO.none _)
      | (with_reducible refine LeO.ite ?_ ?_)
      | (with_reducible refine LeO.bind ?_ (fun _ => ?_))
      | exact spec_plCrossing.mono _ _
      | exact spec_plGood.mono _ _
      | exact LeO.none _
      | refine LeO.ite ?_ ?_
      | refine LeO.bind ?_ (fun _ => ?_)
set_option maxHeartbeats 8000000 in
set_option maxRecDepth 100000 in
theorem spec_CrossingOf.calls (k : Nat) (A0 : Option Addr) (c0 : Nat) (l0 : List (List Int)) (r1 : List (S70)) (r2 : Bool) (w : World) (hr0 : Kd.C (Kd.slice 3 (Kd.int .i64)) w A0 l0.length l0) (hc0 : l0.length ≤ c0) (h : spec_CrossingOf.f k l0 = some (r1, r2)) :
    Calls Try.prog 50 #[.slice A0 l0.length c0] w fun e w' => ∃ v0_ : Value, e = .returned (.tuple #[v0_, .bool r2]) ∧ Kd.R k70 70 w' w.heap.size (fun _ => True) v0_ r1 ∧ Below w.heap.size w w' := by
  have HR0 := Aside0.mk hr0
  have HC0 := Aside0.mk hc0
  clear hr0 hc0
  have HB := Aside0.mk (Below.refl w.heap.size w)
  have H : ((spec_plGood.f k l0).bind fun t603 => (if t603 = true then ((spec_plCrossing.f k l0).bind fun bt604 => (some (bt604.1, bt604.2))) else (some (([] : List (S70)), false)))) = some (r1, r2) := h
  clear h
  replace H := Option.bind_eq_some_iff.mp H
  obtain ⟨t603, A20, H⟩ := H
  replace H : (if t603 = true then ((spec_plCrossing.f k l0).bind fun bt604 => (some (bt604.1, bt604.2))) else (some (([] : List (S70)), false))) = some (r1, r2) := H
  have A2 := Aside0.mk A20
  clear A20
  by_cases c3 : t603 = true
  · subst c3
    have H1 : ((spec_plCrossing.f k l0).bind fun bt604 => (some (bt604.1, bt604.2))) = some (r1, r2) := by rw [if_pos rfl] at H; exact H
    clear H
    have H := H1
    clear H1
    replace H := Option.bind_eq_some_iff.mp H
    obtain ⟨⟨t604, t605⟩, A40, H⟩ := H
    replace H : (some (t604, t605)) = some (r1, r2) := H
    have A4 := Aside0.mk A40
    clear A40
    simp only [Option.some.injEq, Prod.mk.injEq] at H
    obtain ⟨rfl, rfl⟩ := H
    go_enter Try.func50, Try.ntmps50
    go_wp2_with (first | ((with_reducible refine gate_callee (f := 125) rfl ?_); refine goesL_ (some 5) rfl rfl Try.func125 (by kernel_rfl) rfl #[.slice A0 l0.length c0] rfl (by (try simp only [List.map_toArray, List.map_cons, List.map_nil]); first | done | rfl | (simp only [List.length_drop, List.length_take]; rfl)) ?_; (with_reducible refine (spec_plGood.calls k _ _ l0 true _ ?side1 ?side2 A2.out).mono ?_); (case side1 => repeat (first | exact HR0.out | (with_reducible refine Kd.C_alloc ?_ _) | (with_reducible refine Kd.C_drewN ?_ _) | (with_reducible refine Kd.C_drew ?_))); (case side2 => exact HC0.out); rintro e w' ⟨rfl, ⟨nd, rfl⟩⟩; refine ⟨_, rfl, ?_⟩) | ((with_reducible refine gate_callee (f := 140) rfl ?_); refine goesL_ (some 8) rfl rfl Try.func140 (by kernel_rfl) rfl #[.slice A0 l0.length c0] rfl (by (try simp only [List.map_toArray, List.map_cons, List.map_nil]); first | done | rfl | (simp only [List.length_drop, List.length_take]; rfl)) ?_; (with_reducible refine (spec_plCrossing.calls k _ _ l0 t604 t605 _ ?side1 ?side2 A4.out).mono ?_); (case side1 => repeat (first | exact HR0.out | (with_reducible refine Kd.C_alloc ?_ _) | (with_reducible refine Kd.C_drewN ?_ _) | (with_reducible refine Kd.C_drew ?_))); (case side2 => exact HC0.out); rintro e w5 ⟨v606, rfl, ho0, hb⟩; refine ⟨_, rfl, ?_⟩; have n0_ := Aside0.mk (Kd.R_lower ho0 (below_size (by repeat (first | (with_reducible first | exact HB.out | apply below_alloc | apply pw_below_drewN | apply below_drew1) | exact HB.out)))); have n1_ := Aside0.mk (below_step (by repeat (first | (with_reducible first | exact HB.out | apply below_alloc | apply pw_below_drewN | apply below_drew1) | exact HB.out)) hb); clear HB; have HO607 := n0_; have HB := n1_; clear n0_ n1_; (try clear hb); (try clear hb2); (try clear hk); (try clear hi); (try clear ho0)))
    go_ret2
    exact ⟨_, by first | rfl | (simp [errW_none, errW_some] <;> rfl) | (simp [*, errW_none, errW_some] <;> rfl), by (with_reducible repeat (first | apply Kd.R_alloc | apply Kd.R_drewN | apply Kd.R_drew)); exact HO607.out, by repeat (first | (with_reducible first | exact HB.out | apply below_alloc | apply pw_below_drewN | apply below_drew1) | exact HB.out)⟩
  · replace c3 := Bool.eq_false_iff.mpr c3
    subst c3
    have H1 : (some (([] : List (S70)), false)) = some (r1, r2) := by rw [if_neg (show ¬ (false = true) by decide)] at H; exact H
    clear H
    have H := H1
    clear H1
    simp only [Option.some.injEq, Prod.mk.injEq] at H
    obtain ⟨rfl, rfl⟩ := H
    go_enter Try.func50, Try.ntmps50
    go_wp2_with (first | ((with_reducible refine gate_callee (f := 125) rfl ?_); refine goesL_ (some 5) rfl rfl Try.func125 (by kernel_rfl) rfl #[.slice A0 l0.length c0] rfl (by (try simp only [List.map_toArray, List.map_cons, List.map_nil]); first | done | rfl | (simp only [List.length_drop, List.length_take]; rfl)) ?_; (with_reducible refine (spec_plGood.calls k _ _ l0 false _ ?side1 ?side2 A2.out).mono ?_); (case side1 => repeat (first | exact HR0.out | (with_reducible refine Kd.C_alloc ?_ _) | (with_reducible refine Kd.C_drewN ?_ _) | (with_reducible refine Kd.C_drew ?_))); (case side2 => exact HC0.out); rintro e w' ⟨rfl, ⟨nd, rfl⟩⟩; refine ⟨_, rfl, ?_⟩))
    go_ret2
    exact ⟨_, by first | rfl | (simp [errW_none, errW_some] <;> rfl) | (simp [*, errW_none, errW_some] <;> rfl), by first | exact Kd.R_nil _ _ _ _ _ | exact Kd.N_nil _ _ _ _ _ | exact Kd.V_nil _ _ _ _ _ | exact Kd.Q_nil _ _ _ _ _ | exact Kd.S_nil _ _ _ _ _, by repeat (first | (with_reducible first | exact HB.out | apply below_alloc | apply pw_below_drewN | apply below_drew1) | exact HB.out)⟩

end Go.Proofs.Ytllnieknogficaa.K
namespace Go.Proofs.Ytllnieknogficaa.K
open Go.RowKit Go.Proofs.YtllnieknogficaaW.PrintWords Go.Proofs.YtllnieknogficaaW.PrintLast Go.Proofs.YtllnieknogficaaW.PrintMore
attribute [local go_sem] max2_int min2_int max_two min_two max_three min_three max_four min_four   -- for this text's walks alone
set_option linter.unusedVariables false
set_option linter.unusedSimpArgs false
/-- The first answer from place j on. -/
def rowFrom {β : Type} (P : Nat → Option β) (n j : Nat) : Option β := ((List.range n).drop j).findSome? P
theorem rowFrom_end {β : Type} (P : Nat → Option β) (n j : Nat) (h : n ≤ j) : rowFrom P n j = none := by
  unfold rowFrom
  rw [List.drop_of_length_le (by simpa using h)]
  rfl
theorem rowFrom_step {β : Type} (P : Nat → Option β) (n j : Nat) (h : j < n) : rowFrom P n j = match P j with | some b => some b | none => rowFrom P n (j + 1) := by
  unfold rowFrom
  rw [List.drop_eq_getElem_cons (by simpa using h), List.findSome?_cons, List.getElem_range]
  rfl
theorem rowFrom_none {β : Type} (P : Nat → Option β) (n : Nat) : ∀ d j, n - j = d → (∀ q, j ≤ q → q < n → P q = none) → rowFrom P n j = none := by
  intro d
  induction d with
  | zero => intro j hd _; exact rowFrom_end P n j (by omega)
  | succ d ih =>
    intro j hd h
    rw [rowFrom_step P n j (by omega), h j (by omega) (by omega)]
    exact ih (j + 1) (by omega) (fun q h1 h2 => h q (by omega) h2)
theorem rowFrom_skip {β : Type} (P : Nat → Option β) (n i : Nat) (hi : i ≤ n) (h : ∀ q, q < i → P q = none) : ∀ d j, i - j = d → j ≤ i → rowFrom P n j = rowFrom P n i := by
  intro d
  induction d with
  | zero => intro j hd hj; rw [show j = i by omega]
  | succ d ih =>
    intro j hd hj
    rw [rowFrom_step P n j (by omega), h j (by omega)]
    exact ih (j + 1) (by omega) (by omega)
theorem rowFrom_cut {β : Type} (P : Nat → Option β) (n i : Nat) (hi : i ≤ n) (h : ∀ q, i ≤ q → q < n → P q = none) : ∀ d j, i - j = d → j ≤ i → rowFrom P n j = rowFrom P i j := by
  intro d
  induction d with
  | zero => intro j hd hj; rw [show j = i by omega, rowFrom_end P i i (Nat.le_refl _)]; exact rowFrom_none P n _ i rfl h
  | succ d ih =>
    intro j hd hj
    rw [rowFrom_step P n j (by omega), rowFrom_step P i j (by omega), ih (j + 1) (by omega) (by omega)]
theorem rowFrom_congr {β : Type} (P Q : Nat → Option β) (n j : Nat) (h : ∀ q, q < n → P q = Q q) : rowFrom P n j = rowFrom Q n j := by
  unfold rowFrom
  have : ∀ l : List Nat, (∀ q ∈ l, q < n) → l.findSome? P = l.findSome? Q := by
    intro l hl
    induction l with
    | nil => rfl
    | cons a t ih =>
      rw [List.findSome?_cons, List.findSome?_cons, h a (hl a (List.mem_cons_self ..)), ih (fun q hq => hl q (List.mem_cons_of_mem _ hq))]
  exact this _ (fun q hq => List.mem_range.1 (List.mem_of_mem_drop hq))
def at_ (l : List (List Int)) (i j : Nat) : Int := (l.getD i []).getD j 0
/-- The first crossing: its two cells. -/
def crossY (l : List (List Int)) (i j : Nat) : Option (Int × Int × Int × Int) := rowFrom (fun r => rowFrom (fun c => if at_ l r c > 0 then some ((i : Int), (j : Int), (r : Int), (c : Int)) else none) j 0) l.length (i + 1)
def crossX (l : List (List Int)) (i : Nat) : Option (Int × Int × Int × Int) := rowFrom (fun j => if at_ l i j = 0 then none else crossY l i j) l.length 0
def crossOf (l : List (List Int)) : Option (Int × Int × Int × Int) := rowFrom (fun i => crossX l i) l.length 0
def crossR (o : Option (Int × Int × Int × Int)) : Int × Int × Int × Int × Bool := match o with | some (a, b, c, d) => (a, b, c, d, true) | none => (0, 0, 0, 0, false)
theorem row_len (l : List (List Int)) (hr : ∀ r ∈ l, r.length = l.length) (i : Nat) (h : i < l.length) : l[i].length = l.length := hr _ (List.getElem_mem h)
theorem at_row (l : List (List Int)) (i j : Nat) (h : i < l.length) : rd l[i] (j : Int) = at_ l i j := by
  rw [rd_nat_getD]
  simp [at_, h]
section
variable (l : List (List Int)) (hl : l.length ≤ 8) (hr : ∀ r ∈ l, r.length = l.length)
include hl hr
theorem cross_l3 (i j r : Nat) (hi : i < l.length) (hj : j < l.length) (hrr : r < l.length) (x11 : List (List Int)) (x12 x13 : Int) (x18 : List Int) (x19 x20 : Int) (q : Int × Int × Int × Int × Bool)
    (hnext : (∀ c, c < j → ¬ at_ l r c > 0) → Ev (fun k => impl_crossing.l2 k l (i : Int) (j : Int) ((r + 1 : Nat) : Int) x11 x12 x13 x18 x19 x20) q) (hhit : ∀ c, rowFrom (fun c => if at_ l r c > 0 then some ((i : Int), (j : Int), (r : Int), (c : Int)) else none) j 0 = some ((i : Int), (j : Int), (r : Int), (c : Int)) → q = ((i : Int), (j : Int), (r : Int), (c : Int), true)) :
    ∀ d (c : Nat), c ≤ j → j - c = d → (∀ q, q < c → ¬ at_ l r q > 0) → Ev (fun k => impl_crossing.l3 k l (i : Int) (j : Int) (r : Int) x11 x12 x13 x18 x19 x20 (j : Int) (c : Int)) q := by
  intro d
  induction d with
  | zero =>
    intro c hc hd hn
    have : c = j := by omega
    subst this
    refine ev_succ ?_
    simp only [impl_crossing.l3, if_neg (Int.lt_irrefl _), wrap64_nat_succ (show r < 9223372036854775807 by omega)]
    exact hnext hn
  | succ d ih =>
    intro c hc hd hn
    have h1 : (c : Int) < (j : Int) := by omega
    have h2 : (0 : Int) ≤ (r : Int) := by omega
    have h3 : (r : Int) < (l.length : Int) := by omega
    have h4 : (0 : Int) ≤ (c : Int) := by omega
    have hlen := row_len l hr r hrr
    have h5 : (c : Int) < ((rd_L2 l (r : Int)).length : Int) := by rw [rdL_nat l r hrr, hlen]; omega
    have h6 : rd (rd_L2 l (r : Int)) (c : Int) = at_ l r c := by rw [rdL_nat l r hrr]; exact at_row l r c hrr
    refine ev_succ ?_
    simp only [impl_crossing.l3, if_pos h1, if_pos h2, if_pos h3, if_pos h4, if_pos h5, h6, wrap64_nat_succ (show c < 9223372036854775807 by omega)]
    by_cases hp : at_ l r c > 0
    · simp only [if_pos hp]
      refine ev_now _ _ (hhit c ?_).symm
      rw [rowFrom_skip _ j c (by omega) (fun q hq => if_neg (hn q hq)) c 0 (by omega) (by omega), rowFrom_step _ _ _ (by omega), if_pos hp]
    · simp only [if_neg hp]
      refine ih (c + 1) (by omega) (by omega) (fun q hq => ?_)
      by_cases e : q = c
      · subst e; exact hp
      · exact hn q (by omega)
theorem cross_l2 (i j : Nat) (hi : i < l.length) (hj : j < l.length) (x11 : List (List Int)) (x12 x13 : Int) (x18 : List Int) (x19 : Int) (o q : Int × Int × Int × Int × Bool)
    (hnext : Ev (fun k => impl_crossing.l1 k l (i : Int) x11 x12 x13 x18 x19 ((j + 1 : Nat) : Int)) o) (hq : q = match crossY l i j with | some (a, b, c, d) => (a, b, c, d, true) | none => o) :
    ∀ d (r : Nat), i < r → r ≤ l.length → l.length - r = d → crossY l i j = rowFrom (fun r => rowFrom (fun c => if at_ l r c > 0 then some ((i : Int), (j : Int), (r : Int), (c : Int)) else none) j 0) l.length r →
    Ev (fun k => impl_crossing.l2 k l (i : Int) (j : Int) (r : Int) x11 x12 x13 x18 x19 (j : Int)) q := by
  intro d
  induction d with
  | zero =>
    intro r hir hrl hd he
    have : r = l.length := by omega
    subst this
    rw [rowFrom_end _ _ _ (Nat.le_refl _)] at he
    rw [he] at hq
    subst hq
    refine ev_succ ?_
    simp only [impl_crossing.l2, if_neg (Int.lt_irrefl _), wrap64_nat_succ (show j < 9223372036854775807 by omega)]
    exact hnext
  | succ d ih =>
    intro r hir hrl hd he
    have h1 : (r : Int) < (l.length : Int) := by omega
    refine ev_succ ?_
    simp only [impl_crossing.l2, if_pos h1]
    rw [rowFrom_step _ _ _ (by omega)] at he
    refine cross_l3 l hl hr i j r hi hj (by omega) x11 x12 x13 x18 x19 (j : Int) q (fun hn => ?_) (fun c hc => ?_) j 0 (by omega) (by omega) (fun q h => by omega)
    · rw [rowFrom_none _ j j 0 (by omega) (fun q _ h2 => if_neg (hn q h2))] at he
      exact ih (r + 1) (by omega) (by omega) (by omega) he
    · rw [hc] at he
      rw [he] at hq
      exact hq
theorem cross_l1 (i : Nat) (hi : i < l.length) (o q : Int × Int × Int × Int × Bool)
    (hnext : Ev (fun k => impl_crossing.l0 k l l (l.length : Int) ((i + 1 : Nat) : Int)) o) (hq : q = match crossX l i with | some (a, b, c, d) => (a, b, c, d, true) | none => o) :
    ∀ d (j : Nat), j ≤ l.length → l.length - j = d → crossX l i = rowFrom (fun j => if at_ l i j = 0 then none else crossY l i j) l.length j →
    Ev (fun k => impl_crossing.l1 k l (i : Int) l (l.length : Int) (i : Int) l[i] (l[i].length : Int) (j : Int)) q := by
  have hlen := row_len l hr i hi
  intro d
  induction d with
  | zero =>
    intro j hj hd he
    have : j = l.length := by omega
    subst this
    rw [rowFrom_end _ _ _ (Nat.le_refl _)] at he
    rw [he] at hq
    subst hq
    refine ev_succ ?_
    simp only [impl_crossing.l1, hlen, if_neg (Int.lt_irrefl _), wrap64_nat_succ (show i < 9223372036854775807 by omega)]
    exact hnext
  | succ d ih =>
    intro j hj hd he
    have h1 : (j : Int) < (l[i].length : Int) := by omega
    have h2 : (0 : Int) ≤ (j : Int) := by omega
    rw [rowFrom_step _ _ _ (by omega)] at he
    refine ev_succ ?_
    simp only [impl_crossing.l1, if_pos h1, if_pos h2, at_row l i j hi, wrap64_nat_succ (show j < 9223372036854775807 by omega), wrap64_nat_succ (show i < 9223372036854775807 by omega)]
    by_cases hz : at_ l i j = 0
    · rw [if_pos hz] at he
      simp only [if_pos hz]
      exact ih (j + 1) (by omega) (by omega) he
    · rw [if_neg hz] at he
      simp only [if_neg hz]
      cases hy : crossY l i j with
      | none =>
        rw [hy] at he
        exact cross_l2 l hl hr i j hi (by omega) l (l.length : Int) (i : Int) l[i] (l[i].length : Int) q q (ih (j + 1) (by omega) (by omega) he) (by rw [hy]) _ (i + 1) (by omega) (by omega) rfl rfl
      | some b =>
        rw [hy] at he
        have hx : crossX l i = some b := he
        rw [hx] at hq
        obtain ⟨oo, ho⟩ : ∃ oo, Ev (fun k => impl_crossing.l1 k l (i : Int) l (l.length : Int) (i : Int) l[i] (l[i].length : Int) ((j + 1 : Nat) : Int)) oo := by
          have key : ∀ d2 (j2 : Nat), j2 ≤ l.length → l.length - j2 = d2 → ∃ oo, Ev (fun k => impl_crossing.l1 k l (i : Int) l (l.length : Int) (i : Int) l[i] (l[i].length : Int) (j2 : Int)) oo := by
            intro d2
            induction d2 with
            | zero =>
              intro j2 hj2 hd2
              have : j2 = l.length := by omega
              subst this
              refine ⟨o, ev_succ ?_⟩
              simp only [impl_crossing.l1, hlen, if_neg (Int.lt_irrefl _), wrap64_nat_succ (show i < 9223372036854775807 by omega)]
              exact hnext
            | succ d2 ih2 =>
              intro j2 hj2 hd2
              obtain ⟨oo, ho⟩ := ih2 (j2 + 1) (by omega) (by omega)
              have g1 : (j2 : Int) < (l[i].length : Int) := by omega
              have g2 : (0 : Int) ≤ (j2 : Int) := by omega
              by_cases hz2 : at_ l i j2 = 0
              · refine ⟨oo, ev_succ ?_⟩
                simp only [impl_crossing.l1, if_pos g1, if_pos g2, at_row l i j2 hi, if_pos hz2, wrap64_nat_succ (show j2 < 9223372036854775807 by omega)]
                exact ho
              · refine ⟨match crossY l i j2 with | some (a, b, c, d) => (a, b, c, d, true) | none => oo, ev_succ ?_⟩
                simp only [impl_crossing.l1, if_pos g1, if_pos g2, at_row l i j2 hi, if_neg hz2, wrap64_nat_succ (show i < 9223372036854775807 by omega)]
                exact cross_l2 l hl hr i j2 hi (by omega) l (l.length : Int) (i : Int) l[i] (l[i].length : Int) oo _ ho rfl _ (i + 1) (by omega) (by omega) rfl rfl
          exact key _ (j + 1) (by omega) rfl
        exact cross_l2 l hl hr i j hi (by omega) l (l.length : Int) (i : Int) l[i] (l[i].length : Int) oo q ho (by rw [hy]; exact hq) _ (i + 1) (by omega) (by omega) rfl rfl
theorem cross_l0 : ∀ d (i : Nat), i ≤ l.length → l.length - i = d → Ev (fun k => impl_crossing.l0 k l l (l.length : Int) (i : Int)) (crossR (rowFrom (fun i => crossX l i) l.length i)) := by
  intro d
  induction d with
  | zero =>
    intro i hi hd
    have : i = l.length := by omega
    subst this
    refine ev_succ ?_
    simp only [impl_crossing.l0, if_neg (Int.lt_irrefl _)]
    rw [rowFrom_end _ _ _ (Nat.le_refl _)]
    exact ev_now _ _ rfl
  | succ d ih =>
    intro i hi hd
    have hlt : i < l.length := by omega
    have h1 : (i : Int) < (l.length : Int) := by omega
    have h2 : (0 : Int) ≤ (i : Int) := by omega
    refine ev_succ ?_
    simp only [impl_crossing.l0, if_pos h1, if_pos h2, rdL_nat l i hlt]
    refine cross_l1 l hl hr i hlt _ _ (ih (i + 1) (by omega) (by omega)) ?_ _ 0 (by omega) rfl rfl
    rw [rowFrom_step _ _ _ (by omega)]
    cases crossX l i with
    | none => rfl
    | some b => rfl
theorem crossing_ev : Ev (fun k => impl_crossing.f k l) (crossR (crossOf l)) := by
  unfold impl_crossing.f
  have := cross_l0 l hl hr l.length 0 (by omega) (by omega)
  simpa [crossOf] using this
end
/-! ### the reference -/
def mkC (i j : Int) : S70 := ⟨i, j⟩
def cellsRow (l : List (List Int)) (i : Nat) (js : List Nat) : List S70 := (js.filter fun j => decide (at_ l i j > 0)).map fun (j : Nat) => mkC (i : Int) (j : Int)
def cellsOf (l : List (List Int)) (is : List Nat) : List S70 := is.flatMap fun i => cellsRow l i (List.range l.length)
theorem cellsRow_length (l : List (List Int)) (i : Nat) (js : List Nat) : (cellsRow l i js).length ≤ js.length := by
  unfold cellsRow
  rw [List.length_map]
  exact List.length_filter_le _ _
theorem cellsRow_snoc (l : List (List Int)) (i j : Nat) : cellsRow l i (List.range (j + 1)) = cellsRow l i (List.range j) ++ (if at_ l i j > 0 then [mkC (i : Int) (j : Int)] else []) := by
  unfold cellsRow
  rw [List.range_succ, List.filter_append, List.map_append]
  by_cases h : at_ l i j > 0 <;> simp [h]
theorem cellsOf_snoc (l : List (List Int)) (i : Nat) : cellsOf l (List.range (i + 1)) = cellsOf l (List.range i) ++ cellsRow l i (List.range l.length) := by
  unfold cellsOf
  rw [List.range_succ, List.flatMap_append]
  simp
theorem cellsOf_length (l : List (List Int)) (i : Nat) : (cellsOf l (List.range i)).length ≤ i * l.length := by
  induction i with
  | zero => simp [cellsOf]
  | succ i ih =>
    rw [cellsOf_snoc, List.length_append, Nat.succ_mul]
    have := cellsRow_length l i (List.range l.length)
    rw [List.length_range] at this
    omega
theorem cells_l1 (l : List (List Int)) (hl : l.length ≤ 8) (hr : ∀ r ∈ l, r.length = l.length) (i : Nat) (hi : i < l.length) (q : List S70) (hnext : Ev (fun k => spec_plCells.l0 k (cellsOf l (List.range (i + 1))) l (l.length : Int) ((i + 1 : Nat) : Int)) q) :
    ∀ d (j : Nat), j ≤ l.length → l.length - j = d → Ev (fun k => spec_plCells.l1 k (cellsOf l (List.range i) ++ cellsRow l i (List.range j)) (i : Int) l (l.length : Int) (i : Int) l[i] (l[i].length : Int) (j : Int)) q := by
  have hlen := row_len l hr i hi
  intro d
  induction d with
  | zero =>
    intro j hj hd
    have : j = l.length := by omega
    subst this
    refine ev_succ ?_
    simp only [spec_plCells.l1, hlen, if_neg (Int.lt_irrefl _), wrap64_nat_succ (show i < 9223372036854775807 by omega)]
    rw [← cellsOf_snoc]
    exact hnext
  | succ d ih =>
    intro j hj hd
    have h1 : (j : Int) < (l[i].length : Int) := by omega
    have h2 : (0 : Int) ≤ (j : Int) := by omega
    have h3 := cellsOf_length l i
    have h4 := cellsRow_length l i (List.range j)
    have h5 : i * l.length ≤ 8 * 8 := Nat.mul_le_mul (by omega) hl
    rw [List.length_range] at h4
    have h6 : (cellsOf l (List.range i) ++ cellsRow l i (List.range j)).length < 8796093022208 := by rw [List.length_append]; omega
    refine ev_succ ?_
    simp only [spec_plCells.l1, if_pos h1, if_pos h2, at_row l i j hi, if_pos h6, wrap64_nat_succ (show j < 9223372036854775807 by omega)]
    have h7 := ih (j + 1) (by omega) (by omega)
    rw [cellsRow_snoc] at h7
    by_cases hp : at_ l i j > 0
    · rw [if_pos hp, ← List.append_assoc] at h7
      simp only [if_pos hp]
      exact h7
    · rw [if_neg hp, List.append_nil] at h7
      simp only [if_neg hp]
      exact h7
theorem cells_l0 (l : List (List Int)) (hl : l.length ≤ 8) (hr : ∀ r ∈ l, r.length = l.length) : ∀ d (i : Nat), i ≤ l.length → l.length - i = d → Ev (fun k => spec_plCells.l0 k (cellsOf l (List.range i)) l (l.length : Int) (i : Int)) (cellsOf l (List.range l.length)) := by
  intro d
  induction d with
  | zero =>
    intro i hi hd
    have : i = l.length := by omega
    subst this
    refine ev_succ ?_
    simp only [spec_plCells.l0, if_neg (Int.lt_irrefl _)]
    exact ev_now _ _ rfl
  | succ d ih =>
    intro i hi hd
    have hlt : i < l.length := by omega
    have h1 : (i : Int) < (l.length : Int) := by omega
    have h2 : (0 : Int) ≤ (i : Int) := by omega
    refine ev_succ ?_
    simp only [spec_plCells.l0, if_pos h1, if_pos h2, rdL_nat l i hlt]
    have := cells_l1 l hl hr i hlt _ (ih (i + 1) (by omega) (by omega)) l.length 0 (by omega) (by omega)
    simpa [cellsRow] using this
theorem plCells_ev (l : List (List Int)) (hl : l.length ≤ 8) (hr : ∀ r ∈ l, r.length = l.length) : Ev (fun k => spec_plCells.f k l) (cellsOf l (List.range l.length)) := by
  unfold spec_plCells.f
  have := cells_l0 l hl hr l.length 0 (by omega) (by omega)
  simpa [cellsOf] using this
theorem rdT_nat (l : List S70) (i : Nat) (h : i < l.length) : rd_T70 l (i : Int) = l[i] := by unfold rd_T70; simp [h]
/-- The answer of the inner search: the first cell below and to the left. -/
def specY (cs : List S70) (a b : Int) : Option S70 := cs.findSome? fun y => if a < y.f0 then (if b > y.f1 then some y else none) else none
def specX (cs xs : List S70) : Option (S70 × S70) := xs.findSome? fun x => (specY cs x.f0 x.f1).map fun y => (x, y)
theorem spec_l1 (cs : List S70) (hc : cs.length ≤ 1048576) (i : Nat) (hi : i < cs.length) (a b : Int) (o q : List S70 × Bool) (hnext : Ev (fun k => spec_plCrossing.l0 k cs cs (cs.length : Int) ((i + 1 : Nat) : Int)) o)
    (hq : q = match specY cs a b with | some y => ([mkC a b, y], true) | none => o) : ∀ d (j : Nat), j ≤ cs.length → cs.length - j = d → specY cs a b = specY (cs.drop j) a b →
    Ev (fun k => spec_plCrossing.l1 k cs cs (cs.length : Int) (i : Int) cs (cs.length : Int) (j : Int) a b) q := by
  intro d
  induction d with
  | zero =>
    intro j hj hd he
    have : j = cs.length := by omega
    subst this
    rw [List.drop_length] at he
    rw [he] at hq
    subst hq
    refine ev_succ ?_
    simp only [spec_plCrossing.l1, if_neg (Int.lt_irrefl _), wrap64_nat_succ (show i < 9223372036854775807 by omega)]
    exact hnext
  | succ d ih =>
    intro j hj hd he
    have hlt : j < cs.length := by omega
    have h1 : (j : Int) < (cs.length : Int) := by omega
    have h2 : (0 : Int) ≤ (j : Int) := by omega
    rw [List.drop_eq_getElem_cons hlt] at he
    unfold specY at he
    rw [List.findSome?_cons] at he
    refine ev_succ ?_
    simp only [spec_plCrossing.l1, if_pos h1, if_pos h2, rdT_nat cs j hlt, wrap64_nat_succ (show j < 9223372036854775807 by omega)]
    by_cases h3 : a < cs[j].f0
    · by_cases h4 : b > cs[j].f1
      · simp only [if_pos h3, if_pos h4] at he ⊢
        have : specY cs a b = some cs[j] := he
        rw [this] at hq
        exact ev_now _ _ hq.symm
      · simp only [if_pos h3, if_neg h4] at he ⊢
        exact ih (j + 1) (by omega) (by omega) he
    · simp only [if_neg h3] at he ⊢
      exact ih (j + 1) (by omega) (by omega) he
theorem spec_l0 (cs : List S70) (hc : cs.length ≤ 1048576) : ∀ d (i : Nat), i ≤ cs.length → cs.length - i = d →
    Ev (fun k => spec_plCrossing.l0 k cs cs (cs.length : Int) (i : Int)) (match specX cs (cs.drop i) with | some (x, y) => ([x, y], true) | none => ([], false)) := by
  intro d
  induction d with
  | zero =>
    intro i hi hd
    have : i = cs.length := by omega
    subst this
    refine ev_succ ?_
    simp only [spec_plCrossing.l0, if_neg (Int.lt_irrefl _), List.drop_length]
    exact ev_now _ _ rfl
  | succ d ih =>
    intro i hi hd
    have hlt : i < cs.length := by omega
    have h1 : (i : Int) < (cs.length : Int) := by omega
    have h2 : (0 : Int) ≤ (i : Int) := by omega
    refine ev_succ ?_
    simp only [spec_plCrossing.l0, if_pos h1, if_pos h2, rdT_nat cs i hlt]
    refine spec_l1 cs hc i hlt _ _ _ _ (ih (i + 1) (by omega) (by omega)) ?_ _ 0 (by omega) rfl rfl
    rw [List.drop_eq_getElem_cons hlt]
    unfold specX
    rw [List.findSome?_cons]
    cases specY cs cs[i].f0 cs[i].f1 with
    | none => rfl
    | some y => rfl
theorem findSome_filter_map {β γ : Type} (p : Nat → Bool) (g : Nat → β) (f : β → Option γ) : ∀ js : List Nat, ((js.filter p).map g).findSome? f = js.findSome? fun j => if p j then f (g j) else none
  | [] => rfl
  | j :: t => by
    rw [List.filter_cons, List.findSome?_cons]
    cases h : p j with
    | true => simp only [if_true, List.map_cons, List.findSome?_cons, findSome_filter_map p g f t]
    | false => simp [findSome_filter_map p g f t]
theorem findSome_flatMap {α β γ : Type} (g : α → List β) (f : β → Option γ) : ∀ l : List α, (l.flatMap g).findSome? f = l.findSome? fun a => (g a).findSome? f
  | [] => rfl
  | a :: t => by
    rw [List.flatMap_cons, List.findSome?_append, List.findSome?_cons, findSome_flatMap g f t]
    cases (g a).findSome? f <;> rfl
theorem specY_cross (l : List (List Int)) (i j : Nat) (hi : i < l.length) (hj : j < l.length) : specY (cellsOf l (List.range l.length)) (i : Int) (j : Int) = (crossY l i j).map fun x => mkC x.2.2.1 x.2.2.2 := by
  unfold specY cellsOf
  rw [findSome_flatMap]
  have hrow : ∀ r : Nat, (cellsRow l r (List.range l.length)).findSome? (fun y => if (i : Int) < y.f0 then (if (j : Int) > y.f1 then some y else none) else none) = if i < r then (rowFrom (fun c => if at_ l r c > 0 then some ((i : Int), (j : Int), (r : Int), (c : Int)) else none) j 0).map fun x => mkC x.2.2.1 x.2.2.2 else none := by
    intro r
    unfold cellsRow
    rw [findSome_filter_map]
    by_cases hir : i < r
    · rw [if_pos hir]
      have e1 : (fun (c : Nat) => if decide (at_ l r c > 0) = true then (if (i : Int) < (mkC (r : Int) (c : Int)).f0 then (if (j : Int) > (mkC (r : Int) (c : Int)).f1 then some (mkC (r : Int) (c : Int)) else none) else none) else none) = fun c => if c < j then (if at_ l r c > 0 then some (mkC (r : Int) (c : Int)) else none) else none := by
        funext c
        have : (i : Int) < (mkC (r : Int) (c : Int)).f0 := by show (i : Int) < (r : Int); omega
        rw [if_pos this]
        by_cases hc : c < j
        · have : (j : Int) > (mkC (r : Int) (c : Int)).f1 := by show (j : Int) > (c : Int); omega
          rw [if_pos this, if_pos hc]
          by_cases hp : at_ l r c > 0 <;> simp [hp]
        · have : ¬ (j : Int) > (mkC (r : Int) (c : Int)).f1 := by show ¬ (j : Int) > (c : Int); omega
          rw [if_neg this, if_neg hc]
          split <;> rfl
      rw [e1]
      have e2 : (List.range l.length).findSome? (fun c => if c < j then (if at_ l r c > 0 then some (mkC (r : Int) (c : Int)) else none) else none) = rowFrom (fun c => if c < j then (if at_ l r c > 0 then some (mkC (r : Int) (c : Int)) else none) else none) l.length 0 := by unfold rowFrom; rw [List.drop_zero]
      rw [e2, rowFrom_cut _ l.length j (by omega) (fun q h1 _ => if_neg (by omega)) j 0 (by omega) (by omega)]
      rw [rowFrom_congr _ (fun c => if at_ l r c > 0 then some (mkC (r : Int) (c : Int)) else none) j 0 (fun q hq => if_pos hq)]
      unfold rowFrom
      rw [List.drop_zero, List.map_findSome?]
      congr 1
      funext c
      by_cases hp : at_ l r c > 0 <;> simp [hp]
    · rw [if_neg hir]
      rw [List.findSome?_eq_none_iff]
      intro c _
      have : ¬ (i : Int) < (mkC (r : Int) (c : Int)).f0 := by show ¬ (i : Int) < (r : Int); omega
      rw [if_neg this]
      split <;> rfl
  have e3 : (List.range l.length).findSome? (fun r => (cellsRow l r (List.range l.length)).findSome? (fun y => if (i : Int) < y.f0 then (if (j : Int) > y.f1 then some y else none) else none)) = rowFrom (fun r => if i < r then (rowFrom (fun c => if at_ l r c > 0 then some ((i : Int), (j : Int), (r : Int), (c : Int)) else none) j 0).map fun x => mkC x.2.2.1 x.2.2.2 else none) l.length 0 := by
    unfold rowFrom
    rw [List.drop_zero]
    congr 1
    funext r
    exact hrow r
  rw [e3, rowFrom_skip _ l.length (i + 1) (by omega) (fun q hq => if_neg (by omega)) _ 0 rfl (by omega)]
  unfold crossY
  rw [show rowFrom (fun r => if i < r then (rowFrom (fun c => if at_ l r c > 0 then some ((i : Int), (j : Int), (r : Int), (c : Int)) else none) j 0).map (fun x => mkC x.2.2.1 x.2.2.2) else none) l.length (i + 1) = rowFrom (fun r => (rowFrom (fun c => if at_ l r c > 0 then some ((i : Int), (j : Int), (r : Int), (c : Int)) else none) j 0).map (fun x => mkC x.2.2.1 x.2.2.2)) l.length (i + 1) from ?_]
  · conv => rhs; unfold rowFrom
    rw [List.map_findSome?]
    rfl
  · unfold rowFrom
    have : ∀ q ∈ (List.range l.length).drop (i + 1), i < q := by
      intro q hq
      obtain ⟨n, hn, rfl⟩ := List.getElem_of_mem hq
      rw [List.getElem_drop, List.getElem_range]
      omega
    generalize (List.range l.length).drop (i + 1) = L at this
    induction L with
    | nil => rfl
    | cons a t ih =>
      rw [List.findSome?_cons, List.findSome?_cons, if_pos (this a (List.mem_cons_self ..)), ih (fun q hq => this q (List.mem_cons_of_mem _ hq))]
theorem crossY_at (l : List (List Int)) (i j : Nat) (x : Int × Int × Int × Int) (h : crossY l i j = some x) : x.1 = (i : Int) ∧ x.2.1 = (j : Int) := by
  unfold crossY rowFrom at h
  obtain ⟨r, _, hr⟩ := List.exists_of_findSome?_eq_some h
  obtain ⟨c, _, hc⟩ := List.exists_of_findSome?_eq_some hr
  split at hc
  · injection hc with hc; subst hc; exact ⟨rfl, rfl⟩
  · cases hc
theorem specX_cross (l : List (List Int)) (hz : ∀ i j, i < l.length → j < l.length → 0 ≤ at_ l i j) : specX (cellsOf l (List.range l.length)) (cellsOf l (List.range l.length)) = (crossOf l).map fun x => (mkC x.1 x.2.1, mkC x.2.2.1 x.2.2.2) := by
  conv => lhs; unfold specX; rhs; unfold cellsOf
  rw [findSome_flatMap]
  unfold crossOf
  rw [show rowFrom (fun i => crossX l i) l.length 0 = (List.range l.length).findSome? (fun i => crossX l i) from by unfold rowFrom; rw [List.drop_zero], List.map_findSome?]
  have key : ∀ i ∈ List.range l.length, (cellsRow l i (List.range l.length)).findSome? (fun x => (specY (cellsOf l (List.range l.length)) x.f0 x.f1).map fun y => (x, y)) = ((fun o => Option.map (fun x : Int × Int × Int × Int => (mkC x.1 x.2.1, mkC x.2.2.1 x.2.2.2)) o) ∘ fun i => crossX l i) i := by
    intro i hi
    have hi' := List.mem_range.1 hi
    show _ = Option.map _ (crossX l i)
    unfold crossX cellsRow
    rw [findSome_filter_map]
    unfold rowFrom
    rw [List.drop_zero, List.map_findSome?]
    have key2 : ∀ L : List Nat, (∀ j ∈ L, j < l.length) → (L.findSome? fun j => if decide (at_ l i j > 0) = true then Option.map (fun y => (mkC (i : Int) (j : Int), y)) (specY (cellsOf l (List.range l.length)) (mkC (i : Int) (j : Int)).f0 (mkC (i : Int) (j : Int)).f1) else none) = L.findSome? ((fun o => Option.map (fun x : Int × Int × Int × Int => (mkC x.1 x.2.1, mkC x.2.2.1 x.2.2.2)) o) ∘ fun j => if at_ l i j = 0 then none else crossY l i j) := by
      intro L hL
      induction L with
      | nil => rfl
      | cons j t ih =>
        rw [List.findSome?_cons, List.findSome?_cons, ih (fun q hq => hL q (List.mem_cons_of_mem _ hq))]
        have hj := hL j (List.mem_cons_self ..)
        have h0 := hz i j hi' hj
        congr 1
        show (if decide (at_ l i j > 0) = true then _ else none) = Option.map _ (if at_ l i j = 0 then none else crossY l i j)
        by_cases hp : at_ l i j = 0
        · rw [if_pos hp, if_neg (by simp [hp])]; rfl
        · rw [if_neg hp, if_pos (by simp; omega)]
          show Option.map _ (specY (cellsOf l (List.range l.length)) (i : Int) (j : Int)) = _
          rw [specY_cross l i j hi' hj]
          cases hy : crossY l i j with
          | none => rfl
          | some x =>
            obtain ⟨h1, h2⟩ := crossY_at l i j x hy
            simp only [Option.map_some]
            rw [h1, h2]
    exact key2 _ (fun j hj => List.mem_range.1 hj)
  have key3 : ∀ L : List Nat, (∀ i ∈ L, i ∈ List.range l.length) → (L.findSome? fun a => (cellsRow l a (List.range l.length)).findSome? (fun x => (specY (cellsOf l (List.range l.length)) x.f0 x.f1).map fun y => (x, y))) = L.findSome? ((fun o => Option.map (fun x : Int × Int × Int × Int => (mkC x.1 x.2.1, mkC x.2.2.1 x.2.2.2)) o) ∘ fun i => crossX l i) := by
    intro L hL
    induction L with
    | nil => rfl
    | cons a t ih => rw [List.findSome?_cons, List.findSome?_cons, ih (fun q hq => hL q (List.mem_cons_of_mem _ hq)), key a (hL a (List.mem_cons_self ..))]
  exact key3 _ (fun _ h => h)
/-- What both programs answer. -/
def crossA (l : List (List Int)) : List S70 × Bool := match crossOf l with | some x => ([mkC x.1 x.2.1, mkC x.2.2.1 x.2.2.2], true) | none => ([], false)
theorem planAt (l : List (List Int)) (h : planB l = true) (i j : Nat) (hi : i < l.length) (hj : j < l.length) : 0 ≤ at_ l i j ∧ at_ l i j ≤ 60 := by
  obtain ⟨_, _, h3⟩ := (planB_iff l).1 h
  have hr := (h3 l[i] (List.getElem_mem hi))
  have hj' : j < l[i].length := by rw [hr.1]; exact hj
  have : at_ l i j = l[i][j] := by simp [at_, hi, hj']
  rw [this]
  exact hr.2 _ (List.getElem_mem _)
theorem specCrossing_ev (l : List (List Int)) (h : planB l = true) : Ev (fun k => spec_plCrossing.f k l) (crossA l) := by
  obtain ⟨h1, h2, h3⟩ := (planB_iff l).1 h
  have hr : ∀ r ∈ l, r.length = l.length := fun r hr => (h3 r hr).1
  unfold spec_plCrossing.f
  refine Ev.bind (plCells_ev l h2 hr) ?_
  have hc := cellsOf_length l l.length
  have h5 : l.length * l.length ≤ 8 * 8 := Nat.mul_le_mul h2 h2
  have := spec_l0 (cellsOf l (List.range l.length)) (by omega) _ 0 (by omega) rfl
  rw [List.drop_zero, specX_cross l (fun i j hi hj => (planAt l h i j hi hj).1)] at this
  unfold crossA
  cases hx : crossOf l with
  | none => rw [hx] at this; simpa using this
  | some x => rw [hx] at this; simpa using this
theorem specCrossingOf_ev (l : List (List Int)) : Ev (fun k => spec_CrossingOf.f k l) (if planB l = true then crossA l else ([], false)) := by
  unfold spec_CrossingOf.f
  refine Ev.bind (plGood_ev l) ?_
  cases h : planB l with
  | false => exact ev_now _ _ rfl
  | true =>
    simp only [if_true]
    exact Ev.bind (specCrossing_ev l h) (ev_now _ _ rfl)
theorem implCrossingOf_ev (l : List (List Int)) : Ev (fun k => impl_CrossingOf.f k l) (if planB l = true then crossA l else ([], false)) := by
  unfold impl_CrossingOf.f
  rw [isPlan_f]
  simp only [Option.bind_some]
  cases h : planB l with
  | false => exact ev_now _ _ rfl
  | true =>
    obtain ⟨h1, h2, h3⟩ := (planB_iff l).1 h
    simp only [if_true]
    refine Ev.bind (crossing_ev l h2 (fun r hr => (h3 r hr).1)) ?_
    unfold crossA
    cases crossOf l with
    | none => exact ev_now _ _ rfl
    | some x => exact ev_now _ _ rfl
end Go.Proofs.Ytllnieknogficaa.K
namespace Go.Proofs.Ytllnieknogficaa.K
open Go.RowKit Go.Proofs.YtllnieknogficaaW.PrintWords Go.Proofs.YtllnieknogficaaW.PrintLast Go.Proofs.YtllnieknogficaaW.PrintMore
attribute [local go_sem] max2_int min2_int max_two min_two max_three min_three max_four min_four   -- for this text's walks alone
set_option linter.unusedVariables false
set_option linter.unusedSimpArgs false

/-! ### impl_isLowering: function 116 -/
def impl_isLowering.l0 : Nat → List (List Int) → Int → Int → Option (Bool)
  | 0, _, _, _ => none
  | k + 1, x5, x6, x7 => if x7 < x6 then (if 0 ≤ x7 then (if x7 < (x5.length : Int) then (if 0 ≤ (wrap64 (x7 + 1)) then (if (wrap64 (x7 + 1)) ≤ ((rd_L2 x5 x7).length : Int) then ((impl_allWithin.f k ((rd_L2 x5 x7).drop ((wrap64 (x7 + 1)) : Int).toNat) 0 0).bind fun t323 => (if t323 = true then (impl_isLowering.l0 k x5 x6 (wrap64 (x7 + 1))) else (some false))) else (none)) else (none)) else (none)) else (none)) else (some true)
def impl_isLowering.f (k : Nat) (l0 : List (List Int)) : Option (Bool) := impl_isLowering.l0 k l0 (l0.length : Int) 0
theorem impl_isLowering.mono_l : ∀ k, (∀ y0 y1 y2, LeO (impl_isLowering.l0 k y0 y1 y2) (impl_isLowering.l0 (k + 1) y0 y1 y2))
  | 0 => fun _ _ _ r h => by simp [impl_isLowering.l0] at h
  | k + 1 => by
    have ih0 := impl_isLowering.mono_l k
    · intro y0 y1 y2
      unfold impl_isLowering.l0
      repeat' first
      | (with_reducible exact ih0 _ _ _)
      | (with_reducible exact impl_allWithin.mono _ _ _ _)
      | (with_reducible exact LeO.refl _)
      | (with_reducible exact LeO.none _)
      | (with_reducible refine LeO.ite ?_ ?_)
      | (with_reducible refine LeO.bind ?_ (fun _ => ?_))
      | exact ih0 _ _ _
      | exact impl_allWithin.mono _ _ _ _
      | exact LeO.none _
      | refine LeO.ite ?_ ?_
      | refine LeO.bind ?_ (fun _ => ?_)
theorem impl_isLowering.mono : ∀ a0 k, LeO (impl_isLowering.f k a0) (impl_isLowering.f (k + 1) a0) := by
  intro a0 k
  have ih0 := impl_isLowering.mono_l k
  unfold impl_isLowering.f
  repeat' first
      | (with_reducible exact ih0 _ _ _)
      | (with_reducible exact impl_allWithin.mono _ _ _ _)
      | (with_reducible exact LeO.refl _)
      | (with_reducible exact LeO.none _)
      | (with_reducible refine LeO.ite ?_ ?_)
      | (with_reducible refine LeO.bind ?_ (fun _ => ?_))
      | exact ih0 _ _ _
      | exact impl_allWithin.mono _ _ _ _
      | exact LeO.none _
      | refine LeO.ite ?_ ?_
      | refine LeO.bind ?_ (fun _ => ?_)
set_option maxHeartbeats 8000000 in
set_option maxRecDepth 100000 in
theorem impl_isLowering.calls (k : Nat) (A0 : Option Addr) (c0 : Nat) (l0 : List (List Int)) (r : Bool) (w : World) (hr0 : Kd.C (Kd.slice 3 (Kd.int .i64)) w A0 l0.length l0) (hc0 : l0.length ≤ c0) (h : impl_isLowering.f k l0 = some r) :
    Calls Try.prog 116 #[.slice A0 l0.length c0] w fun e w' => e = .returned (.bool r) ∧ Drawn0 w w' := by
  have HR0 := Aside0.mk hr0
  have HC0 := Aside0.mk hc0
  clear hr0 hc0
  have H : (impl_isLowering.l0 k l0 (l0.length : Int) 0) = some r := h
  clear h
  have H' := Aside0.mk H
  clear H
  go_enter Try.func116, Try.ntmps116
  go_wp2
  go_loopg [7] k (fun kq v7 w' => ∃ (x7_1 : Int), v7 = .int .i64 x7_1 ∧ Aside0 (impl_isLowering.l0 kq l0 (l0.length : Int) x7_1 = some r) ∧ Aside0 (kq ≤ k) ∧ Drawn0 w w')
  case atStart => exact ⟨(0), (by first | rfl | (simp; done) | (simp [*]; done)), H', ⟨Nat.le_refl _⟩, by repeat (first | exact Drawn0.refl _ | apply Drawn0.step)⟩
  case round =>
    clear H'
    try clear c1
    obtain ⟨x7_1, rfl, HA, HK1, ⟨m1, rfl⟩⟩ := hrel
    cases gk with
    | zero => exact absurd HA.out (by simp [impl_isLowering.l0])
    | succ k1 =>
      have H := HA.out
      clear HA
      simp only [impl_isLowering.l0] at H
      by_cases c2 : x7_1 < (l0.length : Int)
      · rw [if_pos c2] at H
        have c2b0 : decide (x7_1 < (l0.length : Int)) = true := decide_eq_true c2
        clear c2
        by_cases c3 : 0 ≤ x7_1
        · rw [if_pos c3] at H
          have c3b0 : decide (0 ≤ x7_1) = true := decide_eq_true c3
          clear c3
          by_cases c4 : x7_1 < (l0.length : Int)
          · rw [if_pos c4] at H
            have c4b0 : decide (x7_1 < (l0.length : Int)) = true := decide_eq_true c4
            clear c4
            obtain ⟨ji5, hji5⟩ : ∃ j_ : Int, (wrap64 (x7_1 + 1)) = j_ := ⟨_, rfl⟩
            replace H : (if 0 ≤ (ji5) then (if (ji5) ≤ ((rd_L2 l0 x7_1).length : Int) then ((impl_allWithin.f k1 ((rd_L2 l0 x7_1).drop ((ji5) : Int).toNat) 0 0).bind fun t323 => (if t323 = true then (impl_isLowering.l0 k1 l0 (l0.length : Int) ji5) else (some false))) else (none)) else (none)) = some r := by first | (rw [hji5] at H; exact H) | (simp only [hji5] at H ⊢; exact H)
            have hji5w : (IntKind.i64.wrap (x7_1 + 1)) = ji5 := (i64_w _).trans hji5
            by_cases c6 : 0 ≤ (ji5)
            · rw [if_pos c6] at H
              have c6b0 := eq_true c6
              have c6b1 : decide (0 ≤ (ji5)) = true := decide_eq_true c6
              clear c6
              by_cases c7 : (ji5) ≤ ((rd_L2 l0 x7_1).length : Int)
              · rw [if_pos c7] at H
                have c7b0 := eq_true c7
                have c7b1 : decide ((ji5) ≤ ((rd_L2 l0 x7_1).length : Int)) = true := decide_eq_true c7
                clear c7
                replace H := Option.bind_eq_some_iff.mp H
                obtain ⟨t323, A80, H⟩ := H
                replace H : (if t323 = true then (impl_isLowering.l0 k1 l0 (l0.length : Int) ji5) else (some false)) = some r := H
                have A8 := Aside0.mk A80
                clear A80
                by_cases c9 : t323 = true
                · subst c9
                  have H1 : (impl_isLowering.l0 k1 l0 (l0.length : Int) ji5) = some r := by rw [if_pos rfl] at H; exact H
                  clear H
                  have H := H1
                  clear H1
                  have H' := Aside0.mk H
                  clear H
                  have p321 : 0 ≤ (x7_1 : Int) := of_decide_eq_true (by first | (with_reducible assumption) | assumption)
                  have q321 : x7_1 < (l0.length : Int) := of_decide_eq_true (by first | (with_reducible assumption) | assumption)
                  obtain ⟨ad321, A321_0, c321_0, e321, hx321_0, hl321_0, hi321_0⟩ := at_L2 HR0.out x7_1 p321 q321
                  cases e321
                  have HR321_0 := Aside0.mk hi321_0
                  have HC321_0 := Aside0.mk hl321_0
                  clear hi321_0 hl321_0
                  replace p321 := eq_true p321
                  replace q321 := eq_true q321
                  obtain ⟨i010, hi010, _, hsz10, _⟩ := info_parts info3
                  obtain ⟨A10, hcut10, hA10, hC10⟩ := print_drop_of (P := Try.prog) (Value.int .i64) 0 24 3 .i64 Try.underlying24 hi010 hsz10 A321_0 c321_0 (rd_L2 l0 x7_1) (ji5) (of_decide_eq_true (by first | (with_reducible assumption) | assumption)) (of_decide_eq_true (by first | (with_reducible assumption) | assumption)) HC321_0.out
                  have HR322 := Aside0.mk (Kd.C_of_reads (h1 := fun _ => rfl) (hA10 _ (Kd.reads_of_C HR321_0.out)))
                  have HC322 := Aside0.mk hC10
                  clear hA10 hC10 hi010 hsz10
                  go_wp2_with (first | ((with_reducible refine gate_callee (f := 174) rfl ?_); refine goesL_ (some 16) rfl rfl Try.func174 (by kernel_rfl) rfl #[.slice A10 ((rd_L2 l0 x7_1).drop ((ji5) : Int).toNat).length (c321_0 - (ji5).toNat), .int .i64 0, .int .i64 0] rfl (by (try simp only [List.map_toArray, List.map_cons, List.map_nil]); first | done | (rw [show ((rd_L2 l0 x7_1).drop ((ji5) : Int).toNat).length = ((rd_L2 l0 x7_1).length - (ji5).toNat) from List.length_drop] <;> rfl) | (simp only [hji5]; rfl) | rfl | (simp only [List.length_drop, List.length_take]; rfl)) ?_; (with_reducible refine (impl_allWithin.calls k1 _ _ ((rd_L2 l0 x7_1).drop ((ji5) : Int).toNat) 0 0 true _ ?side1 ?side2 A8.out).mono ?_); (case side1 => repeat (first | exact HR322.out | (with_reducible refine Kd.C_alloc ?_ _) | (with_reducible refine Kd.C_drewN ?_ _) | (with_reducible refine Kd.C_drew ?_))); (case side2 => exact HC322.out); rintro e w' ⟨rfl, ⟨nd, rfl⟩⟩; refine ⟨_, rfl, ?_⟩))
                  go_roundg k1
                  case measure => have := HK1.out; omega
                  case rel => exact ⟨(ji5), (by first | rfl | (simp; done) | (simp only [← hji5] <;> (first | rfl | simp)) | (simp [*]; done)), H', ⟨by have := HK1.out; omega⟩, by repeat (first | exact Drawn0.refl _ | apply Drawn0.step)⟩
                · replace c9 := Bool.eq_false_iff.mpr c9
                  subst c9
                  have H1 : (some false) = some r := by rw [if_neg (show ¬ (false = true) by decide)] at H; exact H
                  clear H
                  have H := H1
                  clear H1
                  obtain rfl := Option.some.inj H
                  have p321 : 0 ≤ (x7_1 : Int) := of_decide_eq_true (by first | (with_reducible assumption) | assumption)
                  have q321 : x7_1 < (l0.length : Int) := of_decide_eq_true (by first | (with_reducible assumption) | assumption)
                  obtain ⟨ad321, A321_0, c321_0, e321, hx321_0, hl321_0, hi321_0⟩ := at_L2 HR0.out x7_1 p321 q321
                  cases e321
                  have HR321_0 := Aside0.mk hi321_0
                  have HC321_0 := Aside0.mk hl321_0
                  clear hi321_0 hl321_0
                  replace p321 := eq_true p321
                  replace q321 := eq_true q321
                  obtain ⟨i011, hi011, _, hsz11, _⟩ := info_parts info3
                  obtain ⟨A11, hcut11, hA11, hC11⟩ := print_drop_of (P := Try.prog) (Value.int .i64) 0 24 3 .i64 Try.underlying24 hi011 hsz11 A321_0 c321_0 (rd_L2 l0 x7_1) (ji5) (of_decide_eq_true (by first | (with_reducible assumption) | assumption)) (of_decide_eq_true (by first | (with_reducible assumption) | assumption)) HC321_0.out
                  have HR322 := Aside0.mk (Kd.C_of_reads (h1 := fun _ => rfl) (hA11 _ (Kd.reads_of_C HR321_0.out)))
                  have HC322 := Aside0.mk hC11
                  clear hA11 hC11 hi011 hsz11
                  go_wp2_with (first | ((with_reducible refine gate_callee (f := 174) rfl ?_); refine goesL_ (some 16) rfl rfl Try.func174 (by kernel_rfl) rfl #[.slice A11 ((rd_L2 l0 x7_1).drop ((ji5) : Int).toNat).length (c321_0 - (ji5).toNat), .int .i64 0, .int .i64 0] rfl (by (try simp only [List.map_toArray, List.map_cons, List.map_nil]); first | done | (rw [show ((rd_L2 l0 x7_1).drop ((ji5) : Int).toNat).length = ((rd_L2 l0 x7_1).length - (ji5).toNat) from List.length_drop] <;> rfl) | (simp only [hji5]; rfl) | rfl | (simp only [List.length_drop, List.length_take]; rfl)) ?_; (with_reducible refine (impl_allWithin.calls k1 _ _ ((rd_L2 l0 x7_1).drop ((ji5) : Int).toNat) 0 0 false _ ?side1 ?side2 A8.out).mono ?_); (case side1 => repeat (first | exact HR322.out | (with_reducible refine Kd.C_alloc ?_ _) | (with_reducible refine Kd.C_drewN ?_ _) | (with_reducible refine Kd.C_drew ?_))); (case side2 => exact HC322.out); rintro e w' ⟨rfl, ⟨nd, rfl⟩⟩; refine ⟨_, rfl, ?_⟩))
                  go_ret
                  exact ⟨by first | rfl | (simp; done) | (simp only [← hji5] <;> (first | rfl | simp)) | (simp [*]; done), by repeat (first | exact Drawn0.refl _ | apply Drawn0.step)⟩
              · rw [if_neg c7] at H
                exact absurd H (by simp)
            · rw [if_neg c6] at H
              exact absurd H (by simp)
          · rw [if_neg c4] at H
            exact absurd H (by simp)
        · rw [if_neg c3] at H
          exact absurd H (by simp)
      · rw [if_neg c2] at H
        have c2b0 : decide (x7_1 < (l0.length : Int)) = false := decide_eq_false c2
        clear c2
        obtain rfl := Option.some.inj H
        go_wp2
        go_ret
        exact ⟨by first | rfl | (simp; done) | (simp [*]; done), by repeat (first | exact Drawn0.refl _ | apply Drawn0.step)⟩

end Go.Proofs.Ytllnieknogficaa.K
namespace Go.Proofs.Ytllnieknogficaa.K
open Go.RowKit Go.Proofs.YtllnieknogficaaW.PrintWords Go.Proofs.YtllnieknogficaaW.PrintLast Go.Proofs.YtllnieknogficaaW.PrintMore
attribute [local go_sem] max2_int min2_int max_two min_two max_three min_three max_four min_four   -- for this text's walks alone
set_option linter.unusedVariables false
set_option linter.unusedSimpArgs false

/-! ### impl_LoweringPlan: function 27 -/
def impl_LoweringPlan.f (k : Nat) (l0 : List Int) (l1 : List Int) : Option ((List (List Int)) × Bool) := (impl_areFitting.f k l0 l1).bind fun t324 => (if t324 = true then ((impl_monotone.f l0 l1).bind fun t325 => ((impl_isLowering.f k t325).bind fun t328 => (if t328 = true then (some (t325, true)) else (some (([] : List (List Int)), false))))) else (some (([] : List (List Int)), false)))
theorem impl_LoweringPlan.mono : ∀ a0 a1 k, LeO (impl_LoweringPlan.f k a0 a1) (impl_LoweringPlan.f (k + 1) a0 a1) := by
  intro a0 a1 k
  unfold impl_LoweringPlan.f
  repeat' first
      | (with_reducible exact impl_areFitting.mono _ _ _)
      | (with_reducible exact impl_isLowering.mono _ _)
      | (with_reducible exact LeO.refl _)
      | (with_reducible exact LeO.none _)
      | (with_reducible refine LeO.ite ?_ ?_)
      | (with_reducible refine LeO.bind ?_ (fun _ => ?_))
      | exact impl_areFitting.mono _ _ _
      | exact impl_isLowering.mono _ _
      | exact LeO.none _
      | refine LeO.ite ?_ ?_
      | refine LeO.bind ?_ (fun _ => ?_)
set_option maxHeartbeats 8000000 in
set_option maxRecDepth 100000 in
theorem impl_LoweringPlan.calls (k : Nat) (A0 : Option Addr) (c0 : Nat) (l0 : List Int) (A1 : Option Addr) (c1 : Nat) (l1 : List Int) (r1 : List (List Int)) (r2 : Bool) (w : World) (hr0 : Kd.C (Kd.int .i64) w A0 l0.length l0) (hc0 : l0.length ≤ c0) (hr1 : Kd.C (Kd.int .i64) w A1 l1.length l1) (hc1 : l1.length ≤ c1) (h : impl_LoweringPlan.f k l0 l1 = some (r1, r2)) :
    Calls Try.prog 27 #[.slice A0 l0.length c0, .slice A1 l1.length c1] w fun e w' => ∃ v0_ : Value, e = .returned (.tuple #[v0_, .bool r2]) ∧ Kd.S (Kd.slice 3 (Kd.int .i64)) 24 w' w.heap.size (fun _ => True) v0_ r1 ∧ Below w.heap.size w w' := by
  have HR0 := Aside0.mk hr0
  have HC0 := Aside0.mk hc0
  clear hr0 hc0
  have HR1 := Aside0.mk hr1
  have HC1 := Aside0.mk hc1
  clear hr1 hc1
  have HB := Aside0.mk (Below.refl w.heap.size w)
  have H : ((impl_areFitting.f k l0 l1).bind fun t324 => (if t324 = true then ((impl_monotone.f l0 l1).bind fun t325 => ((impl_isLowering.f k t325).bind fun t328 => (if t328 = true then (some (t325, true)) else (some (([] : List (List Int)), false))))) else (some (([] : List (List Int)), false)))) = some (r1, r2) := h
  clear h
  replace H := Option.bind_eq_some_iff.mp H
  obtain ⟨t324, A30, H⟩ := H
  replace H : (if t324 = true then ((impl_monotone.f l0 l1).bind fun t325 => ((impl_isLowering.f k t325).bind fun t328 => (if t328 = true then (some (t325, true)) else (some (([] : List (List Int)), false))))) else (some (([] : List (List Int)), false))) = some (r1, r2) := H
  have A3 := Aside0.mk A30
  clear A30
  by_cases c4 : t324 = true
  · subst c4
    have H1 : ((impl_monotone.f l0 l1).bind fun t325 => ((impl_isLowering.f k t325).bind fun t328 => (if t328 = true then (some (t325, true)) else (some (([] : List (List Int)), false))))) = some (r1, r2) := by rw [if_pos rfl] at H; exact H
    clear H
    have H := H1
    clear H1
    replace H := Option.bind_eq_some_iff.mp H
    obtain ⟨t325, A50, H⟩ := H
    replace H : ((impl_isLowering.f k t325).bind fun t328 => (if t328 = true then (some (t325, true)) else (some (([] : List (List Int)), false)))) = some (r1, r2) := H
    have A5 := Aside0.mk A50
    clear A50
    replace H := Option.bind_eq_some_iff.mp H
    obtain ⟨t328, A60, H⟩ := H
    replace H : (if t328 = true then (some (t325, true)) else (some (([] : List (List Int)), false))) = some (r1, r2) := H
    have A6 := Aside0.mk A60
    clear A60
    by_cases c7 : t328 = true
    · subst c7
      have H1 : (some (t325, true)) = some (r1, r2) := by rw [if_pos rfl] at H; exact H
      clear H
      have H := H1
      clear H1
      simp only [Option.some.injEq, Prod.mk.injEq] at H
      obtain ⟨rfl, rfl⟩ := H
      go_enter Try.func27, Try.ntmps27
      go_wp2_with (first | ((with_reducible refine gate_callee (f := 114) rfl ?_); refine goesL_ (some 9) rfl rfl Try.func114 (by kernel_rfl) rfl #[.slice A0 l0.length c0, .slice A1 l1.length c1] rfl (by (try simp only [List.map_toArray, List.map_cons, List.map_nil]); first | done | rfl | (simp only [List.length_drop, List.length_take]; rfl)) ?_; (with_reducible refine (impl_areFitting.calls k _ _ l0 _ _ l1 true _ ?side1 ?side2 ?side3 ?side4 A3.out).mono ?_); (case side1 => repeat (first | exact HR0.out | (with_reducible refine Kd.C_alloc ?_ _) | (with_reducible refine Kd.C_drewN ?_ _) | (with_reducible refine Kd.C_drew ?_))); (case side2 => exact HC0.out); (case side3 => repeat (first | exact HR1.out | (with_reducible refine Kd.C_alloc ?_ _) | (with_reducible refine Kd.C_drewN ?_ _) | (with_reducible refine Kd.C_drew ?_))); (case side4 => exact HC1.out); rintro e w' ⟨rfl, ⟨nd, rfl⟩⟩; refine ⟨_, rfl, ?_⟩) | ((with_reducible refine gate_callee (f := 115) rfl ?_); refine goesL_ (some 13) rfl rfl Try.func115 (by kernel_rfl) rfl #[.slice A0 l0.length c0, .slice A1 l1.length c1] rfl (by (try simp only [List.map_toArray, List.map_cons, List.map_nil]); first | done | rfl | (simp only [List.length_drop, List.length_take]; rfl)) ?_; (with_reducible refine (impl_monotone.calls _ _ l0 _ _ l1 t325 _ ?side1 ?side2 ?side3 ?side4 A5.out).mono ?_); (case side1 => repeat (first | exact HR0.out | (with_reducible refine Kd.C_alloc ?_ _) | (with_reducible refine Kd.C_drewN ?_ _) | (with_reducible refine Kd.C_drew ?_))); (case side2 => exact HC0.out); (case side3 => repeat (first | exact HR1.out | (with_reducible refine Kd.C_alloc ?_ _) | (with_reducible refine Kd.C_drewN ?_ _) | (with_reducible refine Kd.C_drew ?_))); (case side4 => exact HC1.out); rintro e w8 ⟨v326, rfl, ho0, hb⟩; refine ⟨_, rfl, ?_⟩; have n0_ := Aside0.mk (Kd.S_lower ho0 (below_size (by repeat (first | (with_reducible first | exact HB.out | apply below_alloc | apply pw_below_drewN | apply below_drew1) | exact HB.out)))); have n1_ := Aside0.mk (below_step (by repeat (first | (with_reducible first | exact HB.out | apply below_alloc | apply pw_below_drewN | apply below_drew1) | exact HB.out)) hb); clear HB; have HO327 := n0_; have HB := n1_; clear n0_ n1_; (try clear hb); (try clear hb2); (try clear hk); (try clear hi); (try clear ho0); obtain ⟨Ao9, co9, eo9⟩ := Kd.S_slice HO327.out; subst eo9) | ((with_reducible refine gate_callee (f := 116) rfl ?_); refine goesL_ (some 15) rfl rfl Try.func116 (by kernel_rfl) rfl #[.slice Ao9 t325.length co9] rfl (by (try simp only [List.map_toArray, List.map_cons, List.map_nil]); first | done | rfl | (simp only [List.length_drop, List.length_take]; rfl)) ?_; (with_reducible refine (impl_isLowering.calls k _ _ t325 true _ ?side1 ?side2 A6.out).mono ?_); (case side1 => repeat (first | exact (Kd.S_reads' HO327.out).2.2 | (with_reducible refine Kd.C_alloc ?_ _) | (with_reducible refine Kd.C_drewN ?_ _) | (with_reducible refine Kd.C_drew ?_))); (case side2 => exact (Kd.S_reads' HO327.out).2.1); rintro e w' ⟨rfl, ⟨nd, rfl⟩⟩; refine ⟨_, rfl, ?_⟩))
      go_ret2
      exact ⟨_, by first | rfl | (simp [errW_none, errW_some] <;> rfl) | (simp [*, errW_none, errW_some] <;> rfl), by (with_reducible repeat (first | apply Kd.S_alloc | apply Kd.S_drewN | apply Kd.S_drew)); exact HO327.out, by repeat (first | (with_reducible first | exact HB.out | apply below_alloc | apply pw_below_drewN | apply below_drew1) | exact HB.out)⟩
    · replace c7 := Bool.eq_false_iff.mpr c7
      subst c7
      have H1 : (some (([] : List (List Int)), false)) = some (r1, r2) := by rw [if_neg (show ¬ (false = true) by decide)] at H; exact H
      clear H
      have H := H1
      clear H1
      simp only [Option.some.injEq, Prod.mk.injEq] at H
      obtain ⟨rfl, rfl⟩ := H
      go_enter Try.func27, Try.ntmps27
      go_wp2_with (first | ((with_reducible refine gate_callee (f := 114) rfl ?_); refine goesL_ (some 9) rfl rfl Try.func114 (by kernel_rfl) rfl #[.slice A0 l0.length c0, .slice A1 l1.length c1] rfl (by (try simp only [List.map_toArray, List.map_cons, List.map_nil]); first | done | rfl | (simp only [List.length_drop, List.length_take]; rfl)) ?_; (with_reducible refine (impl_areFitting.calls k _ _ l0 _ _ l1 true _ ?side1 ?side2 ?side3 ?side4 A3.out).mono ?_); (case side1 => repeat (first | exact HR0.out | (with_reducible refine Kd.C_alloc ?_ _) | (with_reducible refine Kd.C_drewN ?_ _) | (with_reducible refine Kd.C_drew ?_))); (case side2 => exact HC0.out); (case side3 => repeat (first | exact HR1.out | (with_reducible refine Kd.C_alloc ?_ _) | (with_reducible refine Kd.C_drewN ?_ _) | (with_reducible refine Kd.C_drew ?_))); (case side4 => exact HC1.out); rintro e w' ⟨rfl, ⟨nd, rfl⟩⟩; refine ⟨_, rfl, ?_⟩) | ((with_reducible refine gate_callee (f := 115) rfl ?_); refine goesL_ (some 13) rfl rfl Try.func115 (by kernel_rfl) rfl #[.slice A0 l0.length c0, .slice A1 l1.length c1] rfl (by (try simp only [List.map_toArray, List.map_cons, List.map_nil]); first | done | rfl | (simp only [List.length_drop, List.length_take]; rfl)) ?_; (with_reducible refine (impl_monotone.calls _ _ l0 _ _ l1 t325 _ ?side1 ?side2 ?side3 ?side4 A5.out).mono ?_); (case side1 => repeat (first | exact HR0.out | (with_reducible refine Kd.C_alloc ?_ _) | (with_reducible refine Kd.C_drewN ?_ _) | (with_reducible refine Kd.C_drew ?_))); (case side2 => exact HC0.out); (case side3 => repeat (first | exact HR1.out | (with_reducible refine Kd.C_alloc ?_ _) | (with_reducible refine Kd.C_drewN ?_ _) | (with_reducible refine Kd.C_drew ?_))); (case side4 => exact HC1.out); rintro e w10 ⟨v326, rfl, ho0, hb⟩; refine ⟨_, rfl, ?_⟩; have n0_ := Aside0.mk (Kd.S_lower ho0 (below_size (by repeat (first | (with_reducible first | exact HB.out | apply below_alloc | apply pw_below_drewN | apply below_drew1) | exact HB.out)))); have n1_ := Aside0.mk (below_step (by repeat (first | (with_reducible first | exact HB.out | apply below_alloc | apply pw_below_drewN | apply below_drew1) | exact HB.out)) hb); clear HB; have HO327 := n0_; have HB := n1_; clear n0_ n1_; (try clear hb); (try clear hb2); (try clear hk); (try clear hi); (try clear ho0); obtain ⟨Ao11, co11, eo11⟩ := Kd.S_slice HO327.out; subst eo11) | ((with_reducible refine gate_callee (f := 116) rfl ?_); refine goesL_ (some 15) rfl rfl Try.func116 (by kernel_rfl) rfl #[.slice Ao11 t325.length co11] rfl (by (try simp only [List.map_toArray, List.map_cons, List.map_nil]); first | done | rfl | (simp only [List.length_drop, List.length_take]; rfl)) ?_; (with_reducible refine (impl_isLowering.calls k _ _ t325 false _ ?side1 ?side2 A6.out).mono ?_); (case side1 => repeat (first | exact (Kd.S_reads' HO327.out).2.2 | (with_reducible refine Kd.C_alloc ?_ _) | (with_reducible refine Kd.C_drewN ?_ _) | (with_reducible refine Kd.C_drew ?_))); (case side2 => exact (Kd.S_reads' HO327.out).2.1); rintro e w' ⟨rfl, ⟨nd, rfl⟩⟩; refine ⟨_, rfl, ?_⟩))
      go_ret2
      exact ⟨_, by first | rfl | (simp [errW_none, errW_some] <;> rfl) | (simp [*, errW_none, errW_some] <;> rfl), by first | exact Kd.S_nil _ _ _ _ _ | exact Kd.N_nil _ _ _ _ _ | exact Kd.V_nil _ _ _ _ _ | exact Kd.Q_nil _ _ _ _ _ | exact Kd.R_nil _ _ _ _ _, by repeat (first | (with_reducible first | exact HB.out | apply below_alloc | apply pw_below_drewN | apply below_drew1) | exact HB.out)⟩
  · replace c4 := Bool.eq_false_iff.mpr c4
    subst c4
    have H1 : (some (([] : List (List Int)), false)) = some (r1, r2) := by rw [if_neg (show ¬ (false = true) by decide)] at H; exact H
    clear H
    have H := H1
    clear H1
    simp only [Option.some.injEq, Prod.mk.injEq] at H
    obtain ⟨rfl, rfl⟩ := H
    go_enter Try.func27, Try.ntmps27
    go_wp2_with (first | ((with_reducible refine gate_callee (f := 114) rfl ?_); refine goesL_ (some 9) rfl rfl Try.func114 (by kernel_rfl) rfl #[.slice A0 l0.length c0, .slice A1 l1.length c1] rfl (by (try simp only [List.map_toArray, List.map_cons, List.map_nil]); first | done | rfl | (simp only [List.length_drop, List.length_take]; rfl)) ?_; (with_reducible refine (impl_areFitting.calls k _ _ l0 _ _ l1 false _ ?side1 ?side2 ?side3 ?side4 A3.out).mono ?_); (case side1 => repeat (first | exact HR0.out | (with_reducible refine Kd.C_alloc ?_ _) | (with_reducible refine Kd.C_drewN ?_ _) | (with_reducible refine Kd.C_drew ?_))); (case side2 => exact HC0.out); (case side3 => repeat (first | exact HR1.out | (with_reducible refine Kd.C_alloc ?_ _) | (with_reducible refine Kd.C_drewN ?_ _) | (with_reducible refine Kd.C_drew ?_))); (case side4 => exact HC1.out); rintro e w' ⟨rfl, ⟨nd, rfl⟩⟩; refine ⟨_, rfl, ?_⟩))
    go_ret2
    exact ⟨_, by first | rfl | (simp [errW_none, errW_some] <;> rfl) | (simp [*, errW_none, errW_some] <;> rfl), by first | exact Kd.S_nil _ _ _ _ _ | exact Kd.N_nil _ _ _ _ _ | exact Kd.V_nil _ _ _ _ _ | exact Kd.Q_nil _ _ _ _ _ | exact Kd.R_nil _ _ _ _ _, by repeat (first | (with_reducible first | exact HB.out | apply below_alloc | apply pw_below_drewN | apply below_drew1) | exact HB.out)⟩

end Go.Proofs.Ytllnieknogficaa.K
namespace Go.Proofs.Ytllnieknogficaa.K
open Go.RowKit Go.Proofs.YtllnieknogficaaW.PrintWords Go.Proofs.YtllnieknogficaaW.PrintLast Go.Proofs.YtllnieknogficaaW.PrintMore
attribute [local go_sem] max2_int min2_int max_two min_two max_three min_three max_four min_four   -- for this text's walks alone
set_option linter.unusedVariables false
set_option linter.unusedSimpArgs false

/-! ### spec_plLowering: function 143 -/
def spec_plLowering.l0 : Nat → List (S70) → Int → Int → Option (Bool)
  | 0, _, _, _ => none
  | k + 1, x6, x7, x8 => if x8 < x7 then (if 0 ≤ x8 then (if x8 < (x6.length : Int) then (if ((rd_T70 x6 x8).f1) > ((rd_T70 x6 x8).f0) then (some false) else (spec_plLowering.l0 k x6 x7 (wrap64 (x8 + 1)))) else (none)) else (none)) else (some true)
def spec_plLowering.f (k : Nat) (l0 : List (List Int)) : Option (Bool) := (spec_plCells.f k l0).bind fun t654 => (spec_plLowering.l0 k t654 (t654.length : Int) 0)
theorem spec_plLowering.mono_l : ∀ k, (∀ y0 y1 y2, LeO (spec_plLowering.l0 k y0 y1 y2) (spec_plLowering.l0 (k + 1) y0 y1 y2))
  | 0 => fun _ _ _ r h => by simp [spec_plLowering.l0] at h
  | k + 1 => by
    have ih0 := spec_plLowering.mono_l k
    · intro y0 y1 y2
      unfold spec_plLowering.l0
      repeat' first
      | (with_reducible exact ih0 _ _ _)
      | (with_reducible exact spec_plCells.mono _ _)
      | (with_reducible exact LeO.refl _)
      | (with_reducible exact LeO.none _)
      | (with_reducible refine LeO.ite ?_ ?_)
      | (with_reducible refine LeO.bind ?_ (fun _ => ?_))
      | exact ih0 _ _ _
      | exact spec_plCells.mono _ _
      | exact LeO.none _
      | refine LeO.ite ?_ ?_
      | refine LeO.bind ?_ (fun _ => ?_)
theorem spec_plLowering.mono : ∀ a0 k, LeO (spec_plLowering.f k a0) (spec_plLowering.f (k + 1) a0) := by
  intro a0 k
  have ih0 := spec_plLowering.mono_l k
  unfold spec_plLowering.f
  repeat' first
      | (with_reducible exact ih0 _ _ _)
      | (with_reducible exact spec_plCells.mono _ _)
      | (with_reducible exact LeO.refl _)
      | (with_reducible exact LeO.none _)
      | (with_reducible refine LeO.ite ?_ ?_)
      | (with_reducible refine LeO.bind ?_ (fun _ => ?_))
      | exact ih0 _ _ _
      | exact spec_plCells.mono _ _
      | exact LeO.none _
      | refine LeO.ite ?_ ?_
      | refine LeO.bind ?_ (fun _ => ?_)
set_option maxHeartbeats 8000000 in
set_option maxRecDepth 100000 in
theorem spec_plLowering.calls (k : Nat) (A0 : Option Addr) (c0 : Nat) (l0 : List (List Int)) (r : Bool) (w : World) (hr0 : Kd.C (Kd.slice 3 (Kd.int .i64)) w A0 l0.length l0) (hc0 : l0.length ≤ c0) (h : spec_plLowering.f k l0 = some r) :
    Calls Try.prog 143 #[.slice A0 l0.length c0] w fun e w' => e = .returned (.bool r) ∧ Below w.heap.size w w' := by
  have hu70 := Try.underlying70
  have HR0 := Aside0.mk hr0
  have HC0 := Aside0.mk hc0
  clear hr0 hc0
  have HB := Aside0.mk (Below.refl w.heap.size w)
  have H : ((spec_plCells.f k l0).bind fun t654 => (spec_plLowering.l0 k t654 (t654.length : Int) 0)) = some r := h
  clear h
  replace H := Option.bind_eq_some_iff.mp H
  obtain ⟨t654, A20, H⟩ := H
  replace H : (spec_plLowering.l0 k t654 (t654.length : Int) 0) = some r := H
  have A2 := Aside0.mk A20
  clear A20
  have H' := Aside0.mk H
  clear H
  go_enter Try.func143, Try.ntmps143
  go_wp2_with (first | ((with_reducible refine gate_callee (f := 210) rfl ?_); refine goesL_ (some 6) rfl rfl Try.func210 (by kernel_rfl) rfl #[.slice A0 l0.length c0] rfl (by (try simp only [List.map_toArray, List.map_cons, List.map_nil]); first | done | rfl | (simp only [List.length_drop, List.length_take]; rfl)) ?_; (with_reducible refine (spec_plCells.calls k _ _ l0 t654 _ ?side1 ?side2 A2.out).mono ?_); (case side1 => repeat (first | exact HR0.out | (with_reducible refine Kd.C_alloc ?_ _) | (with_reducible refine Kd.C_drewN ?_ _) | (with_reducible refine Kd.C_drew ?_))); (case side2 => exact HC0.out); rintro e w3 ⟨v655, rfl, ho0, hb⟩; refine ⟨_, rfl, ?_⟩; have n0_ := Aside0.mk (Kd.R_lower ho0 (below_size (by repeat (first | (with_reducible first | exact HB.out | apply below_alloc | apply pw_below_drewN | apply below_drew1) | exact HB.out)))); have n1_ := Aside0.mk (below_step (by repeat (first | (with_reducible first | exact HB.out | apply below_alloc | apply pw_below_drewN | apply below_drew1) | exact HB.out)) hb); clear HB; have HO656 := n0_; have HB := n1_; clear n0_ n1_; (try clear hb); (try clear hb2); (try clear hk); (try clear hi); (try clear ho0); obtain ⟨Ao4, co4, eo4⟩ := Kd.R_slice HO656.out; subst eo4))
  go_loopg [8] k (fun kq v8 w' => ∃ (x8_1 : Int), v8 = .int .i64 x8_1 ∧ Aside0 (spec_plLowering.l0 kq t654 (t654.length : Int) x8_1 = some r) ∧ Aside0 (kq ≤ k) ∧ Aside0 (Kd.R k70 70 w' w.heap.size (fun _ => True) (.slice Ao4 t654.length co4) t654) ∧ Aside0 (Below w.heap.size w w'))
  case atStart => exact ⟨(0), (by first | rfl | (simp; done) | (simp [*]; done)), H', ⟨Nat.le_refl _⟩, ⟨by (with_reducible repeat (first | apply Kd.R_alloc | apply Kd.R_drewN | apply Kd.R_drew)); exact HO656.out⟩, ⟨by repeat (first | (with_reducible first | exact HB.out | apply below_alloc | apply pw_below_drewN | apply below_drew1) | exact HB.out)⟩⟩
  case round =>
    clear H'
    try clear c1
    try clear c2
    try clear p2
    obtain ⟨x8_1, rfl, HA, HK1, HO_6, HB⟩ := hrel
    cases gk with
    | zero => exact absurd HA.out (by simp [spec_plLowering.l0])
    | succ k1 =>
      have H := HA.out
      clear HA
      simp only [spec_plLowering.l0] at H
      by_cases c5 : x8_1 < (t654.length : Int)
      · rw [if_pos c5] at H
        have c5b0 : decide (x8_1 < (t654.length : Int)) = true := decide_eq_true c5
        clear c5
        by_cases c6 : 0 ≤ x8_1
        · rw [if_pos c6] at H
          have c6b0 : decide (0 ≤ x8_1) = true := decide_eq_true c6
          clear c6
          by_cases c7 : x8_1 < (t654.length : Int)
          · rw [if_pos c7] at H
            have c7b0 : decide (x8_1 < (t654.length : Int)) = true := decide_eq_true c7
            clear c7
            by_cases c8 : ((rd_T70 t654 x8_1).f1) > ((rd_T70 t654 x8_1).f0)
            · rw [if_pos c8] at H
              have c8b0 : decide (((rd_T70 t654 x8_1).f0) < ((rd_T70 t654 x8_1).f1)) = true := decide_eq_true c8
              clear c8
              obtain rfl := Option.some.inj H
              have p657 : 0 ≤ (x8_1 : Int) := of_decide_eq_true (by first | (with_reducible assumption) | assumption)
              have q657 : x8_1 < (t654.length : Int) := of_decide_eq_true (by first | (with_reducible assumption) | assumption)
              obtain ⟨ad657, e657, hx657_0, hx657_1⟩ := at_T70 (Kd.R_reads' HO_6.out).2.2 x8_1 p657 q657
              cases e657
              replace p657 := eq_true p657
              replace q657 := eq_true q657
              go_wp2_with (first | ((with_reducible refine gate_dst (N := 4) rfl ?_); refine box_event ?hg (N := 4) ?hd (cs := #[.int .i64 0, .int .i64 0]) (t := 70) ?hr ?_; (case hd => rfl); (case hg => rfl); (case hr => first | (go_simp; done) | (go_simp; rfl)); intro gb658 hg w9 hbox hb; have n0_ := Aside0.mk (Kd.R_below (Kd.R_elderB (by (with_reducible repeat (first | apply Kd.R_alloc | apply Kd.R_drewN | apply Kd.R_drew)); exact HO_6.out) gb658 (Nat.le_of_eq hg.symm)) hb); have n1_ := Aside0.mk (below_step (by repeat (first | (with_reducible first | exact HB.out | apply below_alloc | apply pw_below_drewN | apply below_drew1) | exact HB.out)) hb); have n2_ := Aside0.mk (hbox); have n3_ := Aside0.mk ((by rw [hg]; exact (below_size (by repeat (first | (with_reducible first | exact HB.out | apply below_alloc | apply pw_below_drewN | apply below_drew1) | exact HB.out))) : w.heap.size ≤ gb658)); have n4_ := Aside0.mk ((by rw [hg]; exact (below_size (by repeat (first | (with_reducible first | exact HB.out | apply below_alloc | apply pw_below_drewN | apply below_drew1) | exact HB.out))) : w.heap.size ≤ gb658)); clear HO_6; clear HB; have HO_6 := n0_; have HB := n1_; have BK658 := n2_; have GW658 := n3_; have GE658 := n4_; clear n0_ n1_ n2_ n3_ n4_; clear hb hbox hg; have hcz10_0 : w9.cell? ⟨gb658, 0, none⟩ = some (.int .i64 0) := (blk_cell BK658.out 0).trans rfl; have hcz10_1 : w9.cell? ⟨gb658, 1, none⟩ = some (.int .i64 0) := (blk_cell BK658.out 1).trans rfl; have hfz10_0 := blk_frozen BK658.out 0; have hfz10_1 := blk_frozen BK658.out 1))
              go_ret
              exact ⟨by first | rfl | (simp [errW_none, errW_some] <;> rfl) | (simp [*, errW_none, errW_some] <;> rfl), by repeat (first | (with_reducible first | exact HB.out | apply below_alloc | apply pw_below_drewN | apply below_drew1 | refine below_set ?_ GE658.out) | exact HB.out)⟩
            · rw [if_neg c8] at H
              have c8b0 : decide (((rd_T70 t654 x8_1).f0) < ((rd_T70 t654 x8_1).f1)) = false := decide_eq_false c8
              clear c8
              have H' := Aside0.mk H
              clear H
              have p657 : 0 ≤ (x8_1 : Int) := of_decide_eq_true (by first | (with_reducible assumption) | assumption)
              have q657 : x8_1 < (t654.length : Int) := of_decide_eq_true (by first | (with_reducible assumption) | assumption)
              obtain ⟨ad657, e657, hx657_0, hx657_1⟩ := at_T70 (Kd.R_reads' HO_6.out).2.2 x8_1 p657 q657
              cases e657
              replace p657 := eq_true p657
              replace q657 := eq_true q657
              go_wp2_with (first | ((with_reducible refine gate_dst (N := 4) rfl ?_); refine box_event ?hg (N := 4) ?hd (cs := #[.int .i64 0, .int .i64 0]) (t := 70) ?hr ?_; (case hd => rfl); (case hg => rfl); (case hr => first | (go_simp; done) | (go_simp; rfl)); intro gb658 hg w11 hbox hb; have n0_ := Aside0.mk (Kd.R_below (Kd.R_elderB (by (with_reducible repeat (first | apply Kd.R_alloc | apply Kd.R_drewN | apply Kd.R_drew)); exact HO_6.out) gb658 (Nat.le_of_eq hg.symm)) hb); have n1_ := Aside0.mk (below_step (by repeat (first | (with_reducible first | exact HB.out | apply below_alloc | apply pw_below_drewN | apply below_drew1) | exact HB.out)) hb); have n2_ := Aside0.mk (hbox); have n3_ := Aside0.mk ((by rw [hg]; exact (below_size (by repeat (first | (with_reducible first | exact HB.out | apply below_alloc | apply pw_below_drewN | apply below_drew1) | exact HB.out))) : w.heap.size ≤ gb658)); have n4_ := Aside0.mk ((by rw [hg]; exact (below_size (by repeat (first | (with_reducible first | exact HB.out | apply below_alloc | apply pw_below_drewN | apply below_drew1) | exact HB.out))) : w.heap.size ≤ gb658)); clear HO_6; clear HB; have HO_6 := n0_; have HB := n1_; have BK658 := n2_; have GW658 := n3_; have GE658 := n4_; clear n0_ n1_ n2_ n3_ n4_; clear hb hbox hg; have hcz12_0 : w11.cell? ⟨gb658, 0, none⟩ = some (.int .i64 0) := (blk_cell BK658.out 0).trans rfl; have hcz12_1 : w11.cell? ⟨gb658, 1, none⟩ = some (.int .i64 0) := (blk_cell BK658.out 1).trans rfl; have hfz12_0 := blk_frozen BK658.out 0; have hfz12_1 := blk_frozen BK658.out 1))
              go_roundg k1
              case measure => have := HK1.out; omega
              case rel => exact ⟨(wrap64 (x8_1 + 1)), (by first | rfl | (simp; done) | (simp [*]; done)), H', ⟨by have := HK1.out; omega⟩, ⟨by (with_reducible repeat (first | apply Kd.R_alloc | apply Kd.R_drewN | apply Kd.R_drew)); exact Kd.R_mono (Kd.R_far (p := ⟨gb658, 1, none⟩) (Kd.R_far (p := ⟨gb658, 0, none⟩) (Kd.R_mono HO_6.out (fun k_ hk => (⟨hk, hk.2⟩ : _ ∧ k_ ≠ gb658))) (fun _ hk => hk.2) (.int .i64 ((rd_T70 t654 x8_1).f0))) (fun _ hk => hk.2) (.int .i64 ((rd_T70 t654 x8_1).f1))) (fun _ hk => trivial)⟩, ⟨by repeat (first | (with_reducible first | exact HB.out | apply below_alloc | apply pw_below_drewN | apply below_drew1 | refine below_set ?_ GE658.out) | exact HB.out)⟩⟩
          · rw [if_neg c7] at H
            exact absurd H (by simp)
        · rw [if_neg c6] at H
          exact absurd H (by simp)
      · rw [if_neg c5] at H
        have c5b0 : decide (x8_1 < (t654.length : Int)) = false := decide_eq_false c5
        clear c5
        obtain rfl := Option.some.inj H
        go_wp2
        go_ret
        exact ⟨by first | rfl | (simp [errW_none, errW_some] <;> rfl) | (simp [*, errW_none, errW_some] <;> rfl), by repeat (first | (with_reducible first | exact HB.out | apply below_alloc | apply pw_below_drewN | apply below_drew1) | exact HB.out)⟩

end Go.Proofs.Ytllnieknogficaa.K
namespace Go.Proofs.Ytllnieknogficaa.K
open Go.RowKit Go.Proofs.YtllnieknogficaaW.PrintWords Go.Proofs.YtllnieknogficaaW.PrintLast Go.Proofs.YtllnieknogficaaW.PrintMore
attribute [local go_sem] max2_int min2_int max_two min_two max_three min_three max_four min_four   -- for this text's walks alone
set_option linter.unusedVariables false
set_option linter.unusedSimpArgs false

/-! ### spec_LoweringPlan: function 55 -/
def spec_LoweringPlan.f (k : Nat) (l0 : List Int) (l1 : List Int) : Option ((List (List Int)) × Bool) := (spec_plBoth.f k l0 l1).bind fun t659 => (if t659 = true then ((spec_plMonotone.f l0 l1).bind fun t660 => ((spec_plLowering.f k t660).bind fun t663 => (if t663 = true then ((spec_plMonotone.f l0 l1).bind fun t664 => (some (t664, true))) else (some (([] : List (List Int)), false))))) else (some (([] : List (List Int)), false)))
theorem spec_LoweringPlan.mono : ∀ a0 a1 k, LeO (spec_LoweringPlan.f k a0 a1) (spec_LoweringPlan.f (k + 1) a0 a1) := by
  intro a0 a1 k
  unfold spec_LoweringPlan.f
  repeat' first
      | (with_reducible exact spec_plBoth.mono _ _ _)
      | (with_reducible exact spec_plLowering.mono _ _)
      | (with_reducible exact LeO.refl _)
      | (with_reducible exact LeO.none _)
      | (with_reducible refine LeO.ite ?_ ?_)
      | (with_reducible refine LeO.bind ?_ (fun _ => ?_))
      | exact spec_plBoth.mono _ _ _
      | exact spec_plLowering.mono _ _
      | exact LeO.none _
      | refine LeO.ite ?_ ?_
      | refine LeO.bind ?_ (fun _ => ?_)
set_option maxHeartbeats 8000000 in
set_option maxRecDepth 100000 in
theorem spec_LoweringPlan.calls (k : Nat) (A0 : Option Addr) (c0 : Nat) (l0 : List Int) (A1 : Option Addr) (c1 : Nat) (l1 : List Int) (r1 : List (List Int)) (r2 : Bool) (w : World) (hr0 : Kd.C (Kd.int .i64) w A0 l0.length l0) (hc0 : l0.length ≤ c0) (hr1 : Kd.C (Kd.int .i64) w A1 l1.length l1) (hc1 : l1.length ≤ c1) (h : spec_LoweringPlan.f k l0 l1 = some (r1, r2)) :
    Calls Try.prog 55 #[.slice A0 l0.length c0, .slice A1 l1.length c1] w fun e w' => ∃ v0_ : Value, e = .returned (.tuple #[v0_, .bool r2]) ∧ Kd.S (Kd.slice 3 (Kd.int .i64)) 24 w' w.heap.size (fun _ => True) v0_ r1 ∧ Below w.heap.size w w' := by
  have HR0 := Aside0.mk hr0
  have HC0 := Aside0.mk hc0
  clear hr0 hc0
  have HR1 := Aside0.mk hr1
  have HC1 := Aside0.mk hc1
  clear hr1 hc1
  have HB := Aside0.mk (Below.refl w.heap.size w)
  have H : ((spec_plBoth.f k l0 l1).bind fun t659 => (if t659 = true then ((spec_plMonotone.f l0 l1).bind fun t660 => ((spec_plLowering.f k t660).bind fun t663 => (if t663 = true then ((spec_plMonotone.f l0 l1).bind fun t664 => (some (t664, true))) else (some (([] : List (List Int)), false))))) else (some (([] : List (List Int)), false)))) = some (r1, r2) := h
  clear h
  replace H := Option.bind_eq_some_iff.mp H
  obtain ⟨t659, A30, H⟩ := H
  replace H : (if t659 = true then ((spec_plMonotone.f l0 l1).bind fun t660 => ((spec_plLowering.f k t660).bind fun t663 => (if t663 = true then ((spec_plMonotone.f l0 l1).bind fun t664 => (some (t664, true))) else (some (([] : List (List Int)), false))))) else (some (([] : List (List Int)), false))) = some (r1, r2) := H
  have A3 := Aside0.mk A30
  clear A30
  by_cases c4 : t659 = true
  · subst c4
    have H1 : ((spec_plMonotone.f l0 l1).bind fun t660 => ((spec_plLowering.f k t660).bind fun t663 => (if t663 = true then ((spec_plMonotone.f l0 l1).bind fun t664 => (some (t664, true))) else (some (([] : List (List Int)), false))))) = some (r1, r2) := by rw [if_pos rfl] at H; exact H
    clear H
    have H := H1
    clear H1
    replace H := Option.bind_eq_some_iff.mp H
    obtain ⟨t660, A50, H⟩ := H
    replace H : ((spec_plLowering.f k t660).bind fun t663 => (if t663 = true then ((spec_plMonotone.f l0 l1).bind fun t664 => (some (t664, true))) else (some (([] : List (List Int)), false)))) = some (r1, r2) := H
    have A5 := Aside0.mk A50
    clear A50
    replace H := Option.bind_eq_some_iff.mp H
    obtain ⟨t663, A60, H⟩ := H
    replace H : (if t663 = true then ((spec_plMonotone.f l0 l1).bind fun t664 => (some (t664, true))) else (some (([] : List (List Int)), false))) = some (r1, r2) := H
    have A6 := Aside0.mk A60
    clear A60
    by_cases c7 : t663 = true
    · subst c7
      have H1 : ((spec_plMonotone.f l0 l1).bind fun t664 => (some (t664, true))) = some (r1, r2) := by rw [if_pos rfl] at H; exact H
      clear H
      have H := H1
      clear H1
      replace H := Option.bind_eq_some_iff.mp H
      obtain ⟨t664, A80, H⟩ := H
      replace H : (some (t664, true)) = some (r1, r2) := H
      have A8 := Aside0.mk A80
      clear A80
      simp only [Option.some.injEq, Prod.mk.injEq] at H
      obtain ⟨rfl, rfl⟩ := H
      go_enter Try.func55, Try.ntmps55
      go_wp2_with (first | ((with_reducible refine gate_callee (f := 138) rfl ?_); refine goesL_ (some 8) rfl rfl Try.func138 (by kernel_rfl) rfl #[.slice A0 l0.length c0, .slice A1 l1.length c1] rfl (by (try simp only [List.map_toArray, List.map_cons, List.map_nil]); first | done | rfl | (simp only [List.length_drop, List.length_take]; rfl)) ?_; (with_reducible refine (spec_plBoth.calls k _ _ l0 _ _ l1 true _ ?side1 ?side2 ?side3 ?side4 A3.out).mono ?_); (case side1 => repeat (first | exact HR0.out | (with_reducible refine Kd.C_alloc ?_ _) | (with_reducible refine Kd.C_drewN ?_ _) | (with_reducible refine Kd.C_drew ?_))); (case side2 => exact HC0.out); (case side3 => repeat (first | exact HR1.out | (with_reducible refine Kd.C_alloc ?_ _) | (with_reducible refine Kd.C_drewN ?_ _) | (with_reducible refine Kd.C_drew ?_))); (case side4 => exact HC1.out); rintro e w' ⟨rfl, ⟨nd, rfl⟩⟩; refine ⟨_, rfl, ?_⟩) | (go_at_call 139; (with_reducible refine (spec_plMonotone.calls _ _ l0 _ _ l1 t660 _ ?side1 ?side2 ?side3 ?side4 A5.out).mono ?_); (case side1 => repeat (first | exact HR0.out | (with_reducible refine Kd.C_alloc ?_ _) | (with_reducible refine Kd.C_drewN ?_ _) | (with_reducible refine Kd.C_drew ?_))); (case side2 => exact HC0.out); (case side3 => repeat (first | exact HR1.out | (with_reducible refine Kd.C_alloc ?_ _) | (with_reducible refine Kd.C_drewN ?_ _) | (with_reducible refine Kd.C_drew ?_))); (case side4 => exact HC1.out); rintro e w9 ⟨v661, rfl, ho0, hb⟩; have n0_ := Aside0.mk (Kd.S_lower ho0 (below_size (by repeat (first | (with_reducible first | exact HB.out | apply below_alloc | apply pw_below_drewN | apply below_drew1) | exact HB.out)))); have n1_ := Aside0.mk (below_step (by repeat (first | (with_reducible first | exact HB.out | apply below_alloc | apply pw_below_drewN | apply below_drew1) | exact HB.out)) hb); clear HB; have HO662 := n0_; have HB := n1_; clear n0_ n1_; (try clear hb); (try clear hb2); (try clear hk); (try clear hi); (try clear ho0); obtain ⟨Ao10, co10, eo10⟩ := Kd.S_slice HO662.out; subst eo10) | (go_at_call 143; (with_reducible refine (spec_plLowering.calls k _ _ t660 true _ ?side1 ?side2 A6.out).mono ?_); (case side1 => repeat (first | exact (Kd.S_reads' HO662.out).2.2 | (with_reducible refine Kd.C_alloc ?_ _) | (with_reducible refine Kd.C_drewN ?_ _) | (with_reducible refine Kd.C_drew ?_))); (case side2 => exact (Kd.S_reads' HO662.out).2.1); rintro e w11 ⟨rfl, hb⟩; have n0_ := Aside0.mk (Kd.S_below (by (with_reducible repeat (first | apply Kd.S_alloc | apply Kd.S_drewN | apply Kd.S_drew)); exact HO662.out) hb); have n1_ := Aside0.mk (below_step (by repeat (first | (with_reducible first | exact HB.out | apply below_alloc | apply pw_below_drewN | apply below_drew1) | exact HB.out)) hb); clear HO662; clear HB; have HO662 := n0_; have HB := n1_; clear n0_ n1_; (try clear hb); (try clear hb2); (try clear hk); (try clear hi)) | ((with_reducible refine gate_callee (f := 139) rfl ?_); refine goesL_ (some 19) rfl rfl Try.func139 (by kernel_rfl) rfl #[.slice A0 l0.length c0, .slice A1 l1.length c1] rfl (by (try simp only [List.map_toArray, List.map_cons, List.map_nil]); first | done | rfl | (simp only [List.length_drop, List.length_take]; rfl)) ?_; (with_reducible refine (spec_plMonotone.calls _ _ l0 _ _ l1 t664 _ ?side1 ?side2 ?side3 ?side4 A8.out).mono ?_); (case side1 => repeat (first | exact (Kd.C_below HR0.out HB.out) | (with_reducible refine Kd.C_alloc ?_ _) | (with_reducible refine Kd.C_drewN ?_ _) | (with_reducible refine Kd.C_drew ?_))); (case side2 => exact HC0.out); (case side3 => repeat (first | exact (Kd.C_below HR1.out HB.out) | (with_reducible refine Kd.C_alloc ?_ _) | (with_reducible refine Kd.C_drewN ?_ _) | (with_reducible refine Kd.C_drew ?_))); (case side4 => exact HC1.out); rintro e w12 ⟨v665, rfl, ho0, hb⟩; refine ⟨_, rfl, ?_⟩; have n0_ := Aside0.mk (Kd.S_elder' (by (with_reducible repeat (first | apply Kd.S_alloc | apply Kd.S_drewN | apply Kd.S_drew)); exact HO662.out) (Kd.S_base ho0) hb); have n1_ := Aside0.mk (Kd.S_lower (Kd.S_new' ho0 (Kd.S_lt (by (with_reducible repeat (first | apply Kd.S_alloc | apply Kd.S_drewN | apply Kd.S_drew)); exact HO662.out))) (below_size (by repeat (first | (with_reducible first | exact HB.out | apply below_alloc | apply pw_below_drewN | apply below_drew1) | exact HB.out)))); have n2_ := Aside0.mk (below_step (by repeat (first | (with_reducible first | exact HB.out | apply below_alloc | apply pw_below_drewN | apply below_drew1) | exact HB.out)) hb); clear HO662; clear HB; have HO662 := n0_; have HO666 := n1_; have HB := n2_; clear n0_ n1_ n2_; (try clear hb); (try clear hb2); (try clear hk); (try clear hi); (try clear ho0)))
      go_ret2
      exact ⟨_, by first | rfl | (simp [errW_none, errW_some] <;> rfl) | (simp [*, errW_none, errW_some] <;> rfl), by (with_reducible repeat (first | apply Kd.S_alloc | apply Kd.S_drewN | apply Kd.S_drew)); exact Kd.S_mono HO666.out (fun _ hk => trivial), by repeat (first | (with_reducible first | exact HB.out | apply below_alloc | apply pw_below_drewN | apply below_drew1) | exact HB.out)⟩
    · replace c7 := Bool.eq_false_iff.mpr c7
      subst c7
      have H1 : (some (([] : List (List Int)), false)) = some (r1, r2) := by rw [if_neg (show ¬ (false = true) by decide)] at H; exact H
      clear H
      have H := H1
      clear H1
      simp only [Option.some.injEq, Prod.mk.injEq] at H
      obtain ⟨rfl, rfl⟩ := H
      go_enter Try.func55, Try.ntmps55
      go_wp2_with (first | ((with_reducible refine gate_callee (f := 138) rfl ?_); refine goesL_ (some 8) rfl rfl Try.func138 (by kernel_rfl) rfl #[.slice A0 l0.length c0, .slice A1 l1.length c1] rfl (by (try simp only [List.map_toArray, List.map_cons, List.map_nil]); first | done | rfl | (simp only [List.length_drop, List.length_take]; rfl)) ?_; (with_reducible refine (spec_plBoth.calls k _ _ l0 _ _ l1 true _ ?side1 ?side2 ?side3 ?side4 A3.out).mono ?_); (case side1 => repeat (first | exact HR0.out | (with_reducible refine Kd.C_alloc ?_ _) | (with_reducible refine Kd.C_drewN ?_ _) | (with_reducible refine Kd.C_drew ?_))); (case side2 => exact HC0.out); (case side3 => repeat (first | exact HR1.out | (with_reducible refine Kd.C_alloc ?_ _) | (with_reducible refine Kd.C_drewN ?_ _) | (with_reducible refine Kd.C_drew ?_))); (case side4 => exact HC1.out); rintro e w' ⟨rfl, ⟨nd, rfl⟩⟩; refine ⟨_, rfl, ?_⟩) | (go_at_call 139; (with_reducible refine (spec_plMonotone.calls _ _ l0 _ _ l1 t660 _ ?side1 ?side2 ?side3 ?side4 A5.out).mono ?_); (case side1 => repeat (first | exact HR0.out | (with_reducible refine Kd.C_alloc ?_ _) | (with_reducible refine Kd.C_drewN ?_ _) | (with_reducible refine Kd.C_drew ?_))); (case side2 => exact HC0.out); (case side3 => repeat (first | exact HR1.out | (with_reducible refine Kd.C_alloc ?_ _) | (with_reducible refine Kd.C_drewN ?_ _) | (with_reducible refine Kd.C_drew ?_))); (case side4 => exact HC1.out); rintro e w13 ⟨v661, rfl, ho0, hb⟩; have n0_ := Aside0.mk (Kd.S_lower ho0 (below_size (by repeat (first | (with_reducible first | exact HB.out | apply below_alloc | apply pw_below_drewN | apply below_drew1) | exact HB.out)))); have n1_ := Aside0.mk (below_step (by repeat (first | (with_reducible first | exact HB.out | apply below_alloc | apply pw_below_drewN | apply below_drew1) | exact HB.out)) hb); clear HB; have HO662 := n0_; have HB := n1_; clear n0_ n1_; (try clear hb); (try clear hb2); (try clear hk); (try clear hi); (try clear ho0); obtain ⟨Ao14, co14, eo14⟩ := Kd.S_slice HO662.out; subst eo14) | (go_at_call 143; (with_reducible refine (spec_plLowering.calls k _ _ t660 false _ ?side1 ?side2 A6.out).mono ?_); (case side1 => repeat (first | exact (Kd.S_reads' HO662.out).2.2 | (with_reducible refine Kd.C_alloc ?_ _) | (with_reducible refine Kd.C_drewN ?_ _) | (with_reducible refine Kd.C_drew ?_))); (case side2 => exact (Kd.S_reads' HO662.out).2.1); rintro e w15 ⟨rfl, hb⟩; have n0_ := Aside0.mk (Kd.S_below (by (with_reducible repeat (first | apply Kd.S_alloc | apply Kd.S_drewN | apply Kd.S_drew)); exact HO662.out) hb); have n1_ := Aside0.mk (below_step (by repeat (first | (with_reducible first | exact HB.out | apply below_alloc | apply pw_below_drewN | apply below_drew1) | exact HB.out)) hb); clear HO662; clear HB; have HO662 := n0_; have HB := n1_; clear n0_ n1_; (try clear hb); (try clear hb2); (try clear hk); (try clear hi)))
      go_ret2
      exact ⟨_, by first | rfl | (simp [errW_none, errW_some] <;> rfl) | (simp [*, errW_none, errW_some] <;> rfl), by first | exact Kd.S_nil _ _ _ _ _ | exact Kd.N_nil _ _ _ _ _ | exact Kd.V_nil _ _ _ _ _ | exact Kd.Q_nil _ _ _ _ _ | exact Kd.R_nil _ _ _ _ _, by repeat (first | (with_reducible first | exact HB.out | apply below_alloc | apply pw_below_drewN | apply below_drew1) | exact HB.out)⟩
  · replace c4 := Bool.eq_false_iff.mpr c4
    subst c4
    have H1 : (some (([] : List (List Int)), false)) = some (r1, r2) := by rw [if_neg (show ¬ (false = true) by decide)] at H; exact H
    clear H
    have H := H1
    clear H1
    simp only [Option.some.injEq, Prod.mk.injEq] at H
    obtain ⟨rfl, rfl⟩ := H
    go_enter Try.func55, Try.ntmps55
    go_wp2_with (first | ((with_reducible refine gate_callee (f := 138) rfl ?_); refine goesL_ (some 8) rfl rfl Try.func138 (by kernel_rfl) rfl #[.slice A0 l0.length c0, .slice A1 l1.length c1] rfl (by (try simp only [List.map_toArray, List.map_cons, List.map_nil]); first | done | rfl | (simp only [List.length_drop, List.length_take]; rfl)) ?_; (with_reducible refine (spec_plBoth.calls k _ _ l0 _ _ l1 false _ ?side1 ?side2 ?side3 ?side4 A3.out).mono ?_); (case side1 => repeat (first | exact HR0.out | (with_reducible refine Kd.C_alloc ?_ _) | (with_reducible refine Kd.C_drewN ?_ _) | (with_reducible refine Kd.C_drew ?_))); (case side2 => exact HC0.out); (case side3 => repeat (first | exact HR1.out | (with_reducible refine Kd.C_alloc ?_ _) | (with_reducible refine Kd.C_drewN ?_ _) | (with_reducible refine Kd.C_drew ?_))); (case side4 => exact HC1.out); rintro e w' ⟨rfl, ⟨nd, rfl⟩⟩; refine ⟨_, rfl, ?_⟩))
    go_ret2
    exact ⟨_, by first | rfl | (simp [errW_none, errW_some] <;> rfl) | (simp [*, errW_none, errW_some] <;> rfl), by first | exact Kd.S_nil _ _ _ _ _ | exact Kd.N_nil _ _ _ _ _ | exact Kd.V_nil _ _ _ _ _ | exact Kd.Q_nil _ _ _ _ _ | exact Kd.R_nil _ _ _ _ _, by repeat (first | (with_reducible first | exact HB.out | apply below_alloc | apply pw_below_drewN | apply below_drew1) | exact HB.out)⟩

end Go.Proofs.Ytllnieknogficaa.K
namespace Go.Proofs.Ytllnieknogficaa.K
open Go.RowKit Go.Proofs.YtllnieknogficaaW.PrintWords Go.Proofs.YtllnieknogficaaW.PrintLast Go.Proofs.YtllnieknogficaaW.PrintMore
attribute [local go_sem] max2_int min2_int max_two min_two max_three min_three max_four min_four   -- for this text's walks alone
set_option linter.unusedVariables false
set_option linter.unusedSimpArgs false
/-- No row has anything but zeros right of its own place. -/
def lowB (l : List (List Int)) : Bool := (List.range l.length).all fun i => ((l.getD i []).drop (i + 1)).all fun x => decide (0 ≤ x) && decide (x ≤ 0)
theorem isLowering_l0 (l : List (List Int)) (hl : l.length ≤ 1048576) (hr : ∀ r ∈ l, r.length = l.length) : ∀ d (i : Nat), i ≤ l.length → l.length - i = d →
    Ev (fun k => impl_isLowering.l0 k l (l.length : Int) (i : Int)) (((List.range l.length).drop i).all fun i => ((l.getD i []).drop (i + 1)).all fun x => decide (0 ≤ x) && decide (x ≤ 0)) := by
  intro d
  induction d with
  | zero =>
    intro i hi hd
    have : i = l.length := by omega
    subst this
    refine ev_succ ?_
    simp only [impl_isLowering.l0, if_neg (Int.lt_irrefl _)]
    rw [List.drop_eq_nil_of_le (by simp)]
    exact ev_now _ _ rfl
  | succ d ih =>
    intro i hi hd
    have hlt : i < l.length := by omega
    have h1 : (i : Int) < (l.length : Int) := by omega
    have h2 : (0 : Int) ≤ (i : Int) := by omega
    have hrow : l[i].length = l.length := hr _ (List.getElem_mem hlt)
    have h3 : (0 : Int) ≤ ((i + 1 : Nat) : Int) := by omega
    have h4 : ((i + 1 : Nat) : Int) ≤ (l[i].length : Int) := by omega
    have hd2 : (List.range l.length).drop i = i :: (List.range l.length).drop (i + 1) := by
      rw [List.drop_eq_getElem_cons (by simpa using hlt)]; simp
    have hg : l.getD i [] = l[i] := by rw [List.getD_eq_getElem?_getD, List.getElem?_eq_getElem hlt]; rfl
    refine ev_succ ?_
    simp only [impl_isLowering.l0, if_pos h1, if_pos h2, rdL_nat l i hlt, wrap64_nat_succ (show i < 9223372036854775807 by omega), if_pos h3, if_pos h4, Int.toNat_natCast]
    rw [hd2, List.all_cons, hg]
    refine Ev.bind (allWithin_ev (l[i].drop (i + 1)) 0 0 (by rw [List.length_drop]; omega)) ?_
    cases hc : (l[i].drop (i + 1)).all fun x => decide (0 ≤ x) && decide (x ≤ 0) with
    | false => simp only [Bool.false_eq_true, if_false, Bool.false_and]; exact ev_now _ _ rfl
    | true => simp only [if_true, Bool.true_and]; exact ih (i + 1) (by omega) (by omega)
theorem isLowering_ev (l : List (List Int)) (hl : l.length ≤ 1048576) (hr : ∀ r ∈ l, r.length = l.length) : Ev (fun k => impl_isLowering.f k l) (lowB l) := by
  have h := isLowering_l0 l hl hr l.length 0 (by omega) (by omega)
  rw [List.drop_zero] at h
  exact h
def lowC (cs : List S70) : Bool := cs.all fun x => !decide (x.f1 > x.f0)
theorem plLowering_l0 (cs : List S70) (hc : cs.length ≤ 1048576) : ∀ d (i : Nat), i ≤ cs.length → cs.length - i = d →
    Ev (fun k => spec_plLowering.l0 k cs (cs.length : Int) (i : Int)) (lowC (cs.drop i)) := by
  intro d
  induction d with
  | zero =>
    intro i hi hd
    have : i = cs.length := by omega
    subst this
    refine ev_succ ?_
    simp only [spec_plLowering.l0, if_neg (Int.lt_irrefl _), List.drop_length]
    exact ev_now _ _ rfl
  | succ d ih =>
    intro i hi hd
    have hlt : i < cs.length := by omega
    have h1 : (i : Int) < (cs.length : Int) := by omega
    have h2 : (0 : Int) ≤ (i : Int) := by omega
    refine ev_succ ?_
    simp only [spec_plLowering.l0, if_pos h1, if_pos h2, rdT_nat cs i hlt, wrap64_nat_succ (show i < 9223372036854775807 by omega)]
    rw [List.drop_eq_getElem_cons hlt, lowC, List.all_cons]
    by_cases h3 : cs[i].f1 > cs[i].f0
    · simp only [if_pos h3, decide_eq_true h3, Bool.not_true, Bool.false_and]; exact ev_now _ _ rfl
    · simp only [if_neg h3, decide_eq_false h3, Bool.not_false, Bool.true_and]; exact ih (i + 1) (by omega) (by omega)
theorem low_eq (l : List (List Int)) (hr : ∀ r ∈ l, r.length = l.length) (hz : ∀ i j, i < l.length → j < l.length → 0 ≤ at_ l i j) : lowC (cellsOf l (List.range l.length)) = lowB l := by
  rw [Bool.eq_iff_iff]
  simp only [lowC, lowB, List.all_eq_true, cellsOf, List.mem_flatMap, List.mem_range, cellsRow, List.mem_map, List.mem_filter, decide_eq_true_eq, Bool.not_eq_true', decide_eq_false_iff_not, Bool.and_eq_true]
  constructor
  · intro h i hi x hx
    obtain ⟨q, hq, rfl⟩ := List.mem_iff_getElem.1 hx
    have hrow : (l.getD i []).length = l.length := by
      rw [List.getD_eq_getElem?_getD, List.getElem?_eq_getElem hi]; exact hr _ (List.getElem_mem hi)
    rw [List.length_drop, hrow] at hq
    have hj : i + 1 + q < l.length := by omega
    have hat : at_ l i (i + 1 + q) = ((l.getD i []).drop (i + 1))[q]'(by rw [List.length_drop, hrow]; exact hq) := by
      rw [List.getElem_drop]
      unfold at_
      rw [List.getD_eq_getElem?_getD (l := l.getD i []), List.getElem?_eq_getElem (by rw [hrow]; exact hj)]
      rfl
    rw [← hat]
    have h0 := hz i (i + 1 + q) hi hj
    refine ⟨h0, ?_⟩
    by_cases hp : at_ l i (i + 1 + q) > 0
    · exact absurd (show (mkC (i : Int) ((i + 1 + q : Nat) : Int)).f1 > (mkC (i : Int) ((i + 1 + q : Nat) : Int)).f0 by simp only [mkC]; omega) (h _ ⟨i, hi, ⟨i + 1 + q, ⟨hj, hp⟩, rfl⟩⟩)
    · omega
  · rintro h x ⟨i, hi, ⟨j, ⟨hj, hp⟩, rfl⟩⟩ hgt
    simp only [mkC] at hgt
    have hij : i + 1 ≤ j := by omega
    have hrow : (l.getD i []).length = l.length := by
      rw [List.getD_eq_getElem?_getD, List.getElem?_eq_getElem hi]; exact hr _ (List.getElem_mem hi)
    have hm : at_ l i j ∈ (l.getD i []).drop (i + 1) := by
      rw [List.mem_iff_getElem]
      refine ⟨j - (i + 1), by rw [List.length_drop, hrow]; omega, ?_⟩
      rw [List.getElem_drop]
      unfold at_
      rw [List.getD_eq_getElem?_getD (l := l.getD i []), List.getElem?_eq_getElem (by rw [hrow]; exact hj)]
      simp only [Option.getD_some]
      congr 1
      omega
    have := (h i hi _ hm).2
    omega
theorem plLowering_ev (l : List (List Int)) (hl : l.length ≤ 8) (hr : ∀ r ∈ l, r.length = l.length) (hz : ∀ i j, i < l.length → j < l.length → 0 ≤ at_ l i j) : Ev (fun k => spec_plLowering.f k l) (lowB l) := by
  unfold spec_plLowering.f
  refine Ev.bind (plCells_ev l hl hr) ?_
  have hc := cellsOf_length l l.length
  have := Nat.mul_le_mul hl hl
  have h := plLowering_l0 (cellsOf l (List.range l.length)) (by omega) _ 0 (by omega) rfl
  rw [List.drop_zero, low_eq l hr hz] at h
  exact h
theorem LoweringPlan_pure (l0 l1 : List Int) (h0 : l0.length ≤ 1048576) (_ : ∀ x ∈ l0, (Lit.int .i64 x).wf = true) (h1 : l1.length ≤ 1048576) (_ : ∀ x ∈ l1, (Lit.int .i64 x).wf = true) :
    ∃ (R : List (List Int)) (b : Bool), Ev (fun k => spec_LoweringPlan.f k l0 l1) (R, b) ∧ Ev (fun k => impl_LoweringPlan.f k l0 l1) (R, b) ∧ R.length ≤ 1048576 ∧ (∀ r ∈ R, r.length ≤ 1048576) ∧ laws_markIntSS.tot R ≤ 1048576 := by
  have g1 := plBoth_ev l0 l1 (by omega) (by omega)
  have g2 := areFitting_ev l0 l1 (by omega) (by omega)
  cases hp : fitB l0 l1 with
  | false =>
    rw [hp] at g1 g2
    refine ⟨[], false, Ev.bind g1 ?_, Ev.bind g2 ?_, by simp, by simp, by simp [laws_markIntSS.tot]⟩
    · simp only [Bool.false_eq_true, if_false]; exact ev_now _ _ rfl
    · simp only [Bool.false_eq_true, if_false]; exact ev_now _ _ rfl
  | true =>
    rw [hp] at g1 g2
    obtain ⟨ha, _, hl, _⟩ := (fitB_iff l0 l1).1 hp
    obtain ⟨_, ha8, _⟩ := (listB_iff l0).1 ha
    obtain ⟨s1, s2, s3⟩ := monoP_small l0 l1 hp
    obtain ⟨_, m2, m3⟩ := mono_some l0 l1 hl
    have hr : ∀ r ∈ monoP l0 l1, r.length = (monoP l0 l1).length := fun r hr => by rw [m3 r hr, m2]
    have e1 := plLowering_ev (monoP l0 l1) (by omega) hr (fun i j _ _ => (monoP_cells l0 l1 hp i j).1)
    have e2 := isLowering_ev (monoP l0 l1) s1 hr
    cases hb : lowB (monoP l0 l1) with
    | false =>
      rw [hb] at e1 e2
      refine ⟨[], false, Ev.bind g1 ?_, Ev.bind g2 ?_, by simp, by simp, by simp [laws_markIntSS.tot]⟩
      · simp only [if_true, specMono l0 l1 hl h0, Option.bind_some]
        refine Ev.bind e1 ?_
        simp only [Bool.false_eq_true, if_false]; exact ev_now _ _ rfl
      · simp only [if_true, implMono l0 l1 hl h0, Option.bind_some]
        refine Ev.bind e2 ?_
        simp only [Bool.false_eq_true, if_false]; exact ev_now _ _ rfl
    | true =>
      rw [hb] at e1 e2
      refine ⟨monoP l0 l1, true, Ev.bind g1 ?_, Ev.bind g2 ?_, s1, s2, s3⟩
      · simp only [if_true, specMono l0 l1 hl h0, Option.bind_some]
        refine Ev.bind e1 ?_
        simp only [if_true]; exact ev_now _ _ rfl
      · simp only [if_true, implMono l0 l1 hl h0, Option.bind_some]
        refine Ev.bind e2 ?_
        simp only [if_true]; exact ev_now _ _ rfl
end Go.Proofs.Ytllnieknogficaa.K
namespace Go.Proofs.Ytllnieknogficaa.K
open Go.RowKit Go.Proofs.YtllnieknogficaaW.PrintWords Go.Proofs.YtllnieknogficaaW.PrintLast Go.Proofs.YtllnieknogficaaW.PrintMore
attribute [local go_sem] max2_int min2_int max_two min_two max_three min_three max_four min_four   -- for this text's walks alone
set_option linter.unusedVariables false
set_option linter.unusedSimpArgs false

/-! ### laws_eqIntS: function 45 -/
def laws_eqIntS.l0 : Nat → List Int → List Int → Int → Option (Bool)
  | 0, _, _, _ => none
  | k + 1, x0, x1, x5 => if x5 < (x0.length : Int) then (if 0 ≤ x5 then (if x5 < (x1.length : Int) then (if (rd x0 x5) = (rd x1 x5) then (laws_eqIntS.l0 k x0 x1 (wrap64 (x5 + 1))) else (some false)) else (none)) else (none)) else (some true)
def laws_eqIntS.f (k : Nat) (l0 : List Int) (l1 : List Int) : Option (Bool) := if (l0.length : Int) = (l1.length : Int) then (laws_eqIntS.l0 k l0 l1 0) else (some false)
theorem laws_eqIntS.mono_l : ∀ k, (∀ y0 y1 y2, LeO (laws_eqIntS.l0 k y0 y1 y2) (laws_eqIntS.l0 (k + 1) y0 y1 y2))
  | 0 => fun _ _ _ r h => by simp [laws_eqIntS.l0] at h
  | k + 1 => by
    have ih0 := laws_eqIntS.mono_l k
    · intro y0 y1 y2
      unfold laws_eqIntS.l0
      repeat' first
      | (with_reducible exact ih0 _ _ _)
      | (with_reducible exact LeO.refl _)
      | (with_reducible exact LeO.none _)
      | (with_reducible refine LeO.ite ?_ ?_)
      | (with_reducible refine LeO.bind ?_ (fun _ => ?_))
      | exact ih0 _ _ _
      | exact LeO.none _
      | refine LeO.ite ?_ ?_
      | refine LeO.bind ?_ (fun _ => ?_)
theorem laws_eqIntS.mono : ∀ a0 a1 k, LeO (laws_eqIntS.f k a0 a1) (laws_eqIntS.f (k + 1) a0 a1) := by
  intro a0 a1 k
  have ih0 := laws_eqIntS.mono_l k
  unfold laws_eqIntS.f
  repeat' first
      | (with_reducible exact ih0 _ _ _)
      | (with_reducible exact LeO.refl _)
      | (with_reducible exact LeO.none _)
      | (with_reducible refine LeO.ite ?_ ?_)
      | (with_reducible refine LeO.bind ?_ (fun _ => ?_))
      | exact ih0 _ _ _
      | exact LeO.none _
      | refine LeO.ite ?_ ?_
      | refine LeO.bind ?_ (fun _ => ?_)
set_option maxHeartbeats 8000000 in
set_option maxRecDepth 100000 in
theorem laws_eqIntS.calls (k : Nat) (A0 : Option Addr) (c0 : Nat) (l0 : List Int) (A1 : Option Addr) (c1 : Nat) (l1 : List Int) (r : Bool) (w : World) (hr0 : Kd.C (Kd.int .i64) w A0 l0.length l0) (hc0 : l0.length ≤ c0) (hr1 : Kd.C (Kd.int .i64) w A1 l1.length l1) (hc1 : l1.length ≤ c1) (h : laws_eqIntS.f k l0 l1 = some r) :
    Calls Try.prog 45 #[.slice A0 l0.length c0, .slice A1 l1.length c1] w fun e w' => e = .returned (.bool r) ∧ Drawn0 w w' := by
  have HR0 := Aside0.mk hr0
  have HC0 := Aside0.mk hc0
  clear hr0 hc0
  have HR1 := Aside0.mk hr1
  have HC1 := Aside0.mk hc1
  clear hr1 hc1
  have H : (if (l0.length : Int) = (l1.length : Int) then (laws_eqIntS.l0 k l0 l1 0) else (some false)) = some r := h
  clear h
  by_cases c3 : (l0.length : Int) = (l1.length : Int)
  · rw [if_pos c3] at H
    have c3b0 : ((l0.length : Int) == (l1.length : Int)) = true := beq_iff_eq.mpr c3
    have c3b1 : ((l0.length : Int) != (l1.length : Int)) = false := bne_eq_false_iff_eq.mpr c3
    have c3b2 : (l0.length == l1.length) = true := by first | simpa using c3 | (simp at c3 ⊢; omega)
    clear c3
    have H' := Aside0.mk H
    clear H
    go_enter Try.func45, Try.ntmps45
    go_wp2
    repeat (go_quiet (fail); try go_wp2)
    go_loopg [5] k (fun kq v5 w' => ∃ (x5_1 : Int), v5 = .int .i64 x5_1 ∧ Aside0 (laws_eqIntS.l0 kq l0 l1 x5_1 = some r) ∧ Aside0 (kq ≤ k) ∧ Drawn0 w w')
    case atStart => exact ⟨(0), (by first | rfl | (simp; done) | (simp [*]; done)), H', ⟨Nat.le_refl _⟩, by repeat (first | exact Drawn0.refl _ | apply Drawn0.step)⟩
    case round =>
      clear H'
      try clear c1
      try clear p2
      try clear c3
      try clear c3b0
      try clear c3b1
      try clear c3b2
      obtain ⟨x5_1, rfl, HA, HK1, ⟨m1, rfl⟩⟩ := hrel
      cases gk with
      | zero => exact absurd HA.out (by simp [laws_eqIntS.l0])
      | succ k1 =>
        have H := HA.out
        clear HA
        simp only [laws_eqIntS.l0] at H
        by_cases c4 : x5_1 < (l0.length : Int)
        · rw [if_pos c4] at H
          have c4b0 : decide (x5_1 < (l0.length : Int)) = true := decide_eq_true c4
          clear c4
          by_cases c5 : 0 ≤ x5_1
          · rw [if_pos c5] at H
            have c5b0 : decide (0 ≤ x5_1) = true := decide_eq_true c5
            clear c5
            by_cases c6 : x5_1 < (l1.length : Int)
            · rw [if_pos c6] at H
              have c6b0 : decide (x5_1 < (l1.length : Int)) = true := decide_eq_true c6
              clear c6
              by_cases c7 : (rd l0 x5_1) = (rd l1 x5_1)
              · rw [if_pos c7] at H
                have c7b0 : ((rd l0 x5_1) == (rd l1 x5_1)) = true := beq_iff_eq.mpr c7
                have c7b1 : ((rd l0 x5_1) != (rd l1 x5_1)) = false := bne_eq_false_iff_eq.mpr c7
                clear c7
                have H' := Aside0.mk H
                clear H
                have p425 : 0 ≤ (x5_1 : Int) := of_decide_eq_true (by first | (with_reducible assumption) | assumption)
                have q425 : x5_1 < (l0.length : Int) := of_decide_eq_true (by first | (with_reducible assumption) | assumption)
                obtain ⟨ad425, e425, hx425_0⟩ := Kd.at_int HR0.out x5_1 p425 q425
                cases e425
                replace p425 := eq_true p425
                replace q425 := eq_true q425
                have p426 : 0 ≤ (x5_1 : Int) := of_decide_eq_true (by first | (with_reducible assumption) | assumption)
                have q426 : x5_1 < (l1.length : Int) := of_decide_eq_true (by first | (with_reducible assumption) | assumption)
                obtain ⟨ad426, e426, hx426_0⟩ := Kd.at_int HR1.out x5_1 p426 q426
                cases e426
                replace p426 := eq_true p426
                replace q426 := eq_true q426
                go_wp2
                repeat (go_quiet (fail); try go_wp2)
                go_roundg k1
                case measure => have := HK1.out; omega
                case rel => exact ⟨(wrap64 (x5_1 + 1)), (by first | rfl | (simp; done) | (simp [*]; done)), H', ⟨by have := HK1.out; omega⟩, by repeat (first | exact Drawn0.refl _ | apply Drawn0.step)⟩
              · rw [if_neg c7] at H
                have c7b0 : ((rd l0 x5_1) == (rd l1 x5_1)) = false := beq_eq_false_iff_ne.mpr c7
                have c7b1 : ((rd l0 x5_1) != (rd l1 x5_1)) = true := bne_iff_ne.mpr c7
                obtain rfl := Option.some.inj H
                have p425 : 0 ≤ (x5_1 : Int) := of_decide_eq_true (by first | (with_reducible assumption) | assumption)
                have q425 : x5_1 < (l0.length : Int) := of_decide_eq_true (by first | (with_reducible assumption) | assumption)
                obtain ⟨ad425, e425, hx425_0⟩ := Kd.at_int HR0.out x5_1 p425 q425
                cases e425
                replace p425 := eq_true p425
                replace q425 := eq_true q425
                have p426 : 0 ≤ (x5_1 : Int) := of_decide_eq_true (by first | (with_reducible assumption) | assumption)
                have q426 : x5_1 < (l1.length : Int) := of_decide_eq_true (by first | (with_reducible assumption) | assumption)
                obtain ⟨ad426, e426, hx426_0⟩ := Kd.at_int HR1.out x5_1 p426 q426
                cases e426
                replace p426 := eq_true p426
                replace q426 := eq_true q426
                go_wp2
                repeat (go_quiet (fail); try go_wp2)
                go_ret
                exact ⟨by first | rfl | (simp; done) | (simp [*]; done), by repeat (first | exact Drawn0.refl _ | apply Drawn0.step)⟩
            · rw [if_neg c6] at H
              exact absurd H (by simp)
          · rw [if_neg c5] at H
            exact absurd H (by simp)
        · rw [if_neg c4] at H
          have c4b0 : decide (x5_1 < (l0.length : Int)) = false := decide_eq_false c4
          clear c4
          obtain rfl := Option.some.inj H
          go_wp2
          repeat (go_quiet (fail); try go_wp2)
          go_ret
          exact ⟨by first | rfl | (simp; done) | (simp [*]; done), by repeat (first | exact Drawn0.refl _ | apply Drawn0.step)⟩
  · rw [if_neg c3] at H
    have c3b0 : ((l0.length : Int) == (l1.length : Int)) = false := beq_eq_false_iff_ne.mpr c3
    have c3b1 : ((l0.length : Int) != (l1.length : Int)) = true := bne_iff_ne.mpr c3
    have c3b2 : (l0.length == l1.length) = false := by first | simpa using c3 | (simp at c3 ⊢; omega)
    obtain rfl := Option.some.inj H
    go_enter Try.func45, Try.ntmps45
    go_wp2
    repeat (go_quiet (fail); try go_wp2)
    go_ret
    exact ⟨by first | rfl | (simp; done) | (simp [*]; done), by repeat (first | exact Drawn0.refl _ | apply Drawn0.step)⟩

end Go.Proofs.Ytllnieknogficaa.K
namespace Go.Proofs.Ytllnieknogficaa.K
open Go.RowKit Go.Proofs.YtllnieknogficaaW.PrintWords Go.Proofs.YtllnieknogficaaW.PrintLast Go.Proofs.YtllnieknogficaaW.PrintMore
attribute [local go_sem] max2_int min2_int max_two min_two max_three min_three max_four min_four   -- for this text's walks alone
set_option linter.unusedVariables false
set_option linter.unusedSimpArgs false

/-! ### laws_eqIntSS: function 38 -/
def laws_eqIntSS.l0 : Nat → List (List Int) → List (List Int) → Int → Option (Bool)
  | 0, _, _, _ => none
  | k + 1, x0, x1, x5 => if x5 < (x0.length : Int) then (if 0 ≤ x5 then (if x5 < (x1.length : Int) then ((laws_eqIntS.f k (rd_L2 x0 x5) (rd_L2 x1 x5)).bind fun t429 => (if t429 = true then (laws_eqIntSS.l0 k x0 x1 (wrap64 (x5 + 1))) else (some false))) else (none)) else (none)) else (some true)
def laws_eqIntSS.f (k : Nat) (l0 : List (List Int)) (l1 : List (List Int)) : Option (Bool) := if (l0.length : Int) = (l1.length : Int) then (laws_eqIntSS.l0 k l0 l1 0) else (some false)
theorem laws_eqIntSS.mono_l : ∀ k, (∀ y0 y1 y2, LeO (laws_eqIntSS.l0 k y0 y1 y2) (laws_eqIntSS.l0 (k + 1) y0 y1 y2))
  | 0 => fun _ _ _ r h => by simp [laws_eqIntSS.l0] at h
  | k + 1 => by
    have ih0 := laws_eqIntSS.mono_l k
    · intro y0 y1 y2
      unfold laws_eqIntSS.l0
      repeat' first
      | (with_reducible exact ih0 _ _ _)
      | (with_reducible exact laws_eqIntS.mono _ _ _)
      | (with_reducible exact LeO.refl _)
      | (with_reducible exact LeO.none _)
      | (with_reducible refine LeO.ite ?_ ?_)
      | (with_reducible refine LeO.bind ?_ (fun _ => ?_))
      | exact ih0 _ _ _
      | exact laws_eqIntS.mono _ _ _
      | exact LeO.none _
      | refine LeO.ite ?_ ?_
      | refine LeO.bind ?_ (fun _ => ?_)
theorem laws_eqIntSS.mono : ∀ a0 a1 k, LeO (laws_eqIntSS.f k a0 a1) (laws_eqIntSS.f (k + 1) a0 a1) := by
  intro a0 a1 k
  have ih0 := laws_eqIntSS.mono_l k
  unfold laws_eqIntSS.f
  repeat' first
      | (with_reducible exact ih0 _ _ _)
      | (with_reducible exact laws_eqIntS.mono _ _ _)
      | (with_reducible exact LeO.refl _)
      | (with_reducible exact LeO.none _)
      | (with_reducible refine LeO.ite ?_ ?_)
      | (with_reducible refine LeO.bind ?_ (fun _ => ?_))
      | exact ih0 _ _ _
      | exact laws_eqIntS.mono _ _ _
      | exact LeO.none _
      | refine LeO.ite ?_ ?_
      | refine LeO.bind ?_ (fun _ => ?_)
set_option maxHeartbeats 8000000 in
set_option maxRecDepth 100000 in
theorem laws_eqIntSS.calls (k : Nat) (A0 : Option Addr) (c0 : Nat) (l0 : List (List Int)) (A1 : Option Addr) (c1 : Nat) (l1 : List (List Int)) (r : Bool) (w : World) (hr0 : Kd.C (Kd.slice 3 (Kd.int .i64)) w A0 l0.length l0) (hc0 : l0.length ≤ c0) (hr1 : Kd.C (Kd.slice 3 (Kd.int .i64)) w A1 l1.length l1) (hc1 : l1.length ≤ c1) (h : laws_eqIntSS.f k l0 l1 = some r) :
    Calls Try.prog 38 #[.slice A0 l0.length c0, .slice A1 l1.length c1] w fun e w' => e = .returned (.bool r) ∧ Drawn0 w w' := by
  have HR0 := Aside0.mk hr0
  have HC0 := Aside0.mk hc0
  clear hr0 hc0
  have HR1 := Aside0.mk hr1
  have HC1 := Aside0.mk hc1
  clear hr1 hc1
  have H : (if (l0.length : Int) = (l1.length : Int) then (laws_eqIntSS.l0 k l0 l1 0) else (some false)) = some r := h
  clear h
  by_cases c3 : (l0.length : Int) = (l1.length : Int)
  · rw [if_pos c3] at H
    have c3b0 : ((l0.length : Int) == (l1.length : Int)) = true := beq_iff_eq.mpr c3
    have c3b1 : ((l0.length : Int) != (l1.length : Int)) = false := bne_eq_false_iff_eq.mpr c3
    have c3b2 : (l0.length == l1.length) = true := by first | simpa using c3 | (simp at c3 ⊢; omega)
    clear c3
    have H' := Aside0.mk H
    clear H
    go_enter Try.func38, Try.ntmps38
    go_wp2
    repeat (go_quiet (fail); try go_wp2)
    go_loopg [5] k (fun kq v5 w' => ∃ (x5_1 : Int), v5 = .int .i64 x5_1 ∧ Aside0 (laws_eqIntSS.l0 kq l0 l1 x5_1 = some r) ∧ Aside0 (kq ≤ k) ∧ Drawn0 w w')
    case atStart => exact ⟨(0), (by first | rfl | (simp; done) | (simp [*]; done)), H', ⟨Nat.le_refl _⟩, by repeat (first | exact Drawn0.refl _ | apply Drawn0.step)⟩
    case round =>
      clear H'
      try clear c1
      try clear p2
      try clear c3
      try clear c3b0
      try clear c3b1
      try clear c3b2
      obtain ⟨x5_1, rfl, HA, HK1, ⟨m1, rfl⟩⟩ := hrel
      cases gk with
      | zero => exact absurd HA.out (by simp [laws_eqIntSS.l0])
      | succ k1 =>
        have H := HA.out
        clear HA
        simp only [laws_eqIntSS.l0] at H
        by_cases c4 : x5_1 < (l0.length : Int)
        · rw [if_pos c4] at H
          have c4b0 : decide (x5_1 < (l0.length : Int)) = true := decide_eq_true c4
          clear c4
          by_cases c5 : 0 ≤ x5_1
          · rw [if_pos c5] at H
            have c5b0 : decide (0 ≤ x5_1) = true := decide_eq_true c5
            clear c5
            by_cases c6 : x5_1 < (l1.length : Int)
            · rw [if_pos c6] at H
              have c6b0 : decide (x5_1 < (l1.length : Int)) = true := decide_eq_true c6
              clear c6
              replace H := Option.bind_eq_some_iff.mp H
              obtain ⟨t429, A70, H⟩ := H
              replace H : (if t429 = true then (laws_eqIntSS.l0 k1 l0 l1 (wrap64 (x5_1 + 1))) else (some false)) = some r := H
              have A7 := Aside0.mk A70
              clear A70
              by_cases c8 : t429 = true
              · subst c8
                have H1 : (laws_eqIntSS.l0 k1 l0 l1 (wrap64 (x5_1 + 1))) = some r := by rw [if_pos rfl] at H; exact H
                clear H
                have H := H1
                clear H1
                have H' := Aside0.mk H
                clear H
                have p427 : 0 ≤ (x5_1 : Int) := of_decide_eq_true (by first | (with_reducible assumption) | assumption)
                have q427 : x5_1 < (l0.length : Int) := of_decide_eq_true (by first | (with_reducible assumption) | assumption)
                obtain ⟨ad427, A427_0, c427_0, e427, hx427_0, hl427_0, hi427_0⟩ := at_L2 HR0.out x5_1 p427 q427
                cases e427
                have HR427_0 := Aside0.mk hi427_0
                have HC427_0 := Aside0.mk hl427_0
                clear hi427_0 hl427_0
                replace p427 := eq_true p427
                replace q427 := eq_true q427
                have p428 : 0 ≤ (x5_1 : Int) := of_decide_eq_true (by first | (with_reducible assumption) | assumption)
                have q428 : x5_1 < (l1.length : Int) := of_decide_eq_true (by first | (with_reducible assumption) | assumption)
                obtain ⟨ad428, A428_0, c428_0, e428, hx428_0, hl428_0, hi428_0⟩ := at_L2 HR1.out x5_1 p428 q428
                cases e428
                have HR428_0 := Aside0.mk hi428_0
                have HC428_0 := Aside0.mk hl428_0
                clear hi428_0 hl428_0
                replace p428 := eq_true p428
                replace q428 := eq_true q428
                go_wp2_with (first | (go_at_call 45; (with_reducible refine (laws_eqIntS.calls k1 _ _ (rd_L2 l0 x5_1) _ _ (rd_L2 l1 x5_1) true _ ?side1 ?side2 ?side3 ?side4 A7.out).mono ?_); (case side1 => repeat (first | exact HR427_0.out | (with_reducible refine Kd.C_alloc ?_ _) | (with_reducible refine Kd.C_drewN ?_ _) | (with_reducible refine Kd.C_drew ?_))); (case side2 => exact HC427_0.out); (case side3 => repeat (first | exact HR428_0.out | (with_reducible refine Kd.C_alloc ?_ _) | (with_reducible refine Kd.C_drewN ?_ _) | (with_reducible refine Kd.C_drew ?_))); (case side4 => exact HC428_0.out); rintro e w' ⟨rfl, ⟨nd, rfl⟩⟩; (try first | exact ⟨rfl, _, World.drewN_drewN _ _ _⟩ | exact ⟨rfl, _, Eq.trans (World.drewN_drewN _ _ _) (congrArg (World.drewN _) (Nat.add_assoc _ _ _))⟩)))
                repeat (go_quiet (first | (go_at_call 45; (with_reducible refine (laws_eqIntS.calls k1 _ _ (rd_L2 l0 x5_1) _ _ (rd_L2 l1 x5_1) true _ ?side1 ?side2 ?side3 ?side4 A7.out).mono ?_); (case side1 => repeat (first | exact HR427_0.out | (with_reducible refine Kd.C_alloc ?_ _) | (with_reducible refine Kd.C_drewN ?_ _) | (with_reducible refine Kd.C_drew ?_))); (case side2 => exact HC427_0.out); (case side3 => repeat (first | exact HR428_0.out | (with_reducible refine Kd.C_alloc ?_ _) | (with_reducible refine Kd.C_drewN ?_ _) | (with_reducible refine Kd.C_drew ?_))); (case side4 => exact HC428_0.out); rintro e w' ⟨rfl, ⟨nd, rfl⟩⟩; (try first | exact ⟨rfl, _, World.drewN_drewN _ _ _⟩ | exact ⟨rfl, _, Eq.trans (World.drewN_drewN _ _ _) (congrArg (World.drewN _) (Nat.add_assoc _ _ _))⟩))); try go_wp2_with (first | (go_at_call 45; (with_reducible refine (laws_eqIntS.calls k1 _ _ (rd_L2 l0 x5_1) _ _ (rd_L2 l1 x5_1) true _ ?side1 ?side2 ?side3 ?side4 A7.out).mono ?_); (case side1 => repeat (first | exact HR427_0.out | (with_reducible refine Kd.C_alloc ?_ _) | (with_reducible refine Kd.C_drewN ?_ _) | (with_reducible refine Kd.C_drew ?_))); (case side2 => exact HC427_0.out); (case side3 => repeat (first | exact HR428_0.out | (with_reducible refine Kd.C_alloc ?_ _) | (with_reducible refine Kd.C_drewN ?_ _) | (with_reducible refine Kd.C_drew ?_))); (case side4 => exact HC428_0.out); rintro e w' ⟨rfl, ⟨nd, rfl⟩⟩; (try first | exact ⟨rfl, _, World.drewN_drewN _ _ _⟩ | exact ⟨rfl, _, Eq.trans (World.drewN_drewN _ _ _) (congrArg (World.drewN _) (Nat.add_assoc _ _ _))⟩))))
                go_roundg k1
                case measure => have := HK1.out; omega
                case rel => exact ⟨(wrap64 (x5_1 + 1)), (by first | rfl | (simp; done) | (simp [*]; done)), H', ⟨by have := HK1.out; omega⟩, by repeat (first | exact Drawn0.refl _ | apply Drawn0.step)⟩
              · replace c8 := Bool.eq_false_iff.mpr c8
                subst c8
                have H1 : (some false) = some r := by rw [if_neg (show ¬ (false = true) by decide)] at H; exact H
                clear H
                have H := H1
                clear H1
                obtain rfl := Option.some.inj H
                have p427 : 0 ≤ (x5_1 : Int) := of_decide_eq_true (by first | (with_reducible assumption) | assumption)
                have q427 : x5_1 < (l0.length : Int) := of_decide_eq_true (by first | (with_reducible assumption) | assumption)
                obtain ⟨ad427, A427_0, c427_0, e427, hx427_0, hl427_0, hi427_0⟩ := at_L2 HR0.out x5_1 p427 q427
                cases e427
                have HR427_0 := Aside0.mk hi427_0
                have HC427_0 := Aside0.mk hl427_0
                clear hi427_0 hl427_0
                replace p427 := eq_true p427
                replace q427 := eq_true q427
                have p428 : 0 ≤ (x5_1 : Int) := of_decide_eq_true (by first | (with_reducible assumption) | assumption)
                have q428 : x5_1 < (l1.length : Int) := of_decide_eq_true (by first | (with_reducible assumption) | assumption)
                obtain ⟨ad428, A428_0, c428_0, e428, hx428_0, hl428_0, hi428_0⟩ := at_L2 HR1.out x5_1 p428 q428
                cases e428
                have HR428_0 := Aside0.mk hi428_0
                have HC428_0 := Aside0.mk hl428_0
                clear hi428_0 hl428_0
                replace p428 := eq_true p428
                replace q428 := eq_true q428
                go_wp2_with (first | (go_at_call 45; (with_reducible refine (laws_eqIntS.calls k1 _ _ (rd_L2 l0 x5_1) _ _ (rd_L2 l1 x5_1) false _ ?side1 ?side2 ?side3 ?side4 A7.out).mono ?_); (case side1 => repeat (first | exact HR427_0.out | (with_reducible refine Kd.C_alloc ?_ _) | (with_reducible refine Kd.C_drewN ?_ _) | (with_reducible refine Kd.C_drew ?_))); (case side2 => exact HC427_0.out); (case side3 => repeat (first | exact HR428_0.out | (with_reducible refine Kd.C_alloc ?_ _) | (with_reducible refine Kd.C_drewN ?_ _) | (with_reducible refine Kd.C_drew ?_))); (case side4 => exact HC428_0.out); rintro e w' ⟨rfl, ⟨nd, rfl⟩⟩; (try first | exact ⟨rfl, _, World.drewN_drewN _ _ _⟩ | exact ⟨rfl, _, Eq.trans (World.drewN_drewN _ _ _) (congrArg (World.drewN _) (Nat.add_assoc _ _ _))⟩)))
                repeat (go_quiet (first | (go_at_call 45; (with_reducible refine (laws_eqIntS.calls k1 _ _ (rd_L2 l0 x5_1) _ _ (rd_L2 l1 x5_1) false _ ?side1 ?side2 ?side3 ?side4 A7.out).mono ?_); (case side1 => repeat (first | exact HR427_0.out | (with_reducible refine Kd.C_alloc ?_ _) | (with_reducible refine Kd.C_drewN ?_ _) | (with_reducible refine Kd.C_drew ?_))); (case side2 => exact HC427_0.out); (case side3 => repeat (first | exact HR428_0.out | (with_reducible refine Kd.C_alloc ?_ _) | (with_reducible refine Kd.C_drewN ?_ _) | (with_reducible refine Kd.C_drew ?_))); (case side4 => exact HC428_0.out); rintro e w' ⟨rfl, ⟨nd, rfl⟩⟩; (try first | exact ⟨rfl, _, World.drewN_drewN _ _ _⟩ | exact ⟨rfl, _, Eq.trans (World.drewN_drewN _ _ _) (congrArg (World.drewN _) (Nat.add_assoc _ _ _))⟩))); try go_wp2_with (first | (go_at_call 45; (with_reducible refine (laws_eqIntS.calls k1 _ _ (rd_L2 l0 x5_1) _ _ (rd_L2 l1 x5_1) false _ ?side1 ?side2 ?side3 ?side4 A7.out).mono ?_); (case side1 => repeat (first | exact HR427_0.out | (with_reducible refine Kd.C_alloc ?_ _) | (with_reducible refine Kd.C_drewN ?_ _) | (with_reducible refine Kd.C_drew ?_))); (case side2 => exact HC427_0.out); (case side3 => repeat (first | exact HR428_0.out | (with_reducible refine Kd.C_alloc ?_ _) | (with_reducible refine Kd.C_drewN ?_ _) | (with_reducible refine Kd.C_drew ?_))); (case side4 => exact HC428_0.out); rintro e w' ⟨rfl, ⟨nd, rfl⟩⟩; (try first | exact ⟨rfl, _, World.drewN_drewN _ _ _⟩ | exact ⟨rfl, _, Eq.trans (World.drewN_drewN _ _ _) (congrArg (World.drewN _) (Nat.add_assoc _ _ _))⟩))))
                go_ret
                exact ⟨by first | rfl | (simp; done) | (simp [*]; done), by repeat (first | exact Drawn0.refl _ | apply Drawn0.step)⟩
            · rw [if_neg c6] at H
              exact absurd H (by simp)
          · rw [if_neg c5] at H
            exact absurd H (by simp)
        · rw [if_neg c4] at H
          have c4b0 : decide (x5_1 < (l0.length : Int)) = false := decide_eq_false c4
          clear c4
          obtain rfl := Option.some.inj H
          go_wp2
          repeat (go_quiet (fail); try go_wp2)
          go_ret
          exact ⟨by first | rfl | (simp; done) | (simp [*]; done), by repeat (first | exact Drawn0.refl _ | apply Drawn0.step)⟩
  · rw [if_neg c3] at H
    have c3b0 : ((l0.length : Int) == (l1.length : Int)) = false := beq_eq_false_iff_ne.mpr c3
    have c3b1 : ((l0.length : Int) != (l1.length : Int)) = true := bne_iff_ne.mpr c3
    have c3b2 : (l0.length == l1.length) = false := by first | simpa using c3 | (simp at c3 ⊢; omega)
    obtain rfl := Option.some.inj H
    go_enter Try.func38, Try.ntmps38
    go_wp2
    repeat (go_quiet (fail); try go_wp2)
    go_ret
    exact ⟨by first | rfl | (simp; done) | (simp [*]; done), by repeat (first | exact Drawn0.refl _ | apply Drawn0.step)⟩

end Go.Proofs.Ytllnieknogficaa.K
