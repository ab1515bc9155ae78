/-
Part 2 of the proof of the law FnExactGluePlans: what the Go functions that it reaches come to, each proved of the given program; no condition beside those that each theorem names.
-/
import Derived.StillTailTactics
import Derived.Test.YtllnieknogficaaMFnExactGluePlans1
namespace Go.Proofs.Ytllnieknogficaa.K
open Go.RowKit Go.Proofs.YtllnieknogficaaW.PrintWords Go.Proofs.YtllnieknogficaaW.PrintLast Go.Proofs.YtllnieknogficaaW.PrintMore
attribute [local go_sem] max2_int min2_int max_two min_two max_three min_three max_four min_four   -- for this text's walks alone
set_option linter.unusedVariables false
set_option linter.unusedSimpArgs false

/-! ### spec_plMonotone: function 139 -/
def spec_plMonotone.f (l0 l1 : List Int) : Option (List (List Int)) := if l0.length ≤ 1048576 ∧ l1.length ≤ 1048576 then impl_carry.go (l0.length + l1.length + 1) (impl_square.tab (fun _ _ => 0) l0.length l0.length) l0 l1 0 0 else none
theorem spec_plMonotone.empties (n : Nat) (hn : n ≤ 1048576) : ∀ d k (m : Nat), m ≤ n → n - m = d → d < k → spec_plEmpty.l0 k (n : Int) (List.replicate m (List.replicate n 0)) (m : Int) = some (List.replicate n (List.replicate n 0)) := by
  intro d
  induction d with
  | zero =>
    intro k m hm hd hk
    obtain ⟨k, rfl⟩ : ∃ k', k = k' + 1 := ⟨k - 1, by omega⟩
    have : m = n := by omega
    subst this
    simp only [spec_plEmpty.l0]
    rw [if_neg (by omega)]
  | succ d ih =>
    intro k m hm hd hk
    obtain ⟨k, rfl⟩ : ∃ k', k = k' + 1 := ⟨k - 1, by omega⟩
    simp only [spec_plEmpty.l0]
    rw [if_pos (by omega), if_pos (by omega), if_pos (by omega), if_pos (by simp; omega)]
    have hw : wrap64 ((m : Int) + 1) = ((m + 1 : Nat) : Int) := by unfold wrap64; omega
    rw [hw, Int.toNat_natCast, ← List.replicate_succ']
    exact ih k (m + 1) (by omega) (by omega) (by omega)
theorem spec_plMonotone.empty (n : Nat) (hn : n ≤ 1048576) : spec_plEmpty.f (n + 1) (n : Int) = some (impl_square.tab (fun _ _ => 0) n n) := by
  have h := spec_plMonotone.empties n hn n (n + 1) 0 (by omega) (by omega) (by omega)
  have h2 : impl_square.tab (fun _ _ => 0) n n = List.replicate n (List.replicate n 0) := by simp [impl_square.tab, List.map_const']
  rw [h2]
  exact h
set_option maxHeartbeats 4000000 in
set_option maxRecDepth 100000 in
theorem spec_plMonotone.calls (A0 : Option Addr) (c0 : Nat) (l0 : List Int) (A1 : Option Addr) (c1 : Nat) (l1 : List Int) (r : List (List Int)) (w : World) (hr0 : Kd.C (Kd.int .i64) w A0 l0.length l0) (hc0 : l0.length ≤ c0) (hr1 : Kd.C (Kd.int .i64) w A1 l1.length l1) (hc1 : l1.length ≤ c1) (h : spec_plMonotone.f l0 l1 = some r) :
    Calls Try.prog 139 #[.slice A0 l0.length c0, .slice A1 l1.length c1] w fun e w' => ∃ v0_ : Value, e = .returned (v0_) ∧ Kd.S (Kd.slice 3 (Kd.int .i64)) 24 w' w.heap.size (fun _ => True) v0_ r ∧ Below w.heap.size w w' := by
  unfold spec_plMonotone.f at h
  by_cases hs : l0.length ≤ 1048576 ∧ l1.length ≤ 1048576
  rotate_left
  · rw [if_neg hs] at h
    cases h
  rw [if_pos hs] at h
  obtain ⟨hs0, hs1⟩ := hs
  obtain ⟨k, hk⟩ : ∃ k, l0.length + l1.length + 1 = k := ⟨_, rfl⟩
  rw [hk] at h
  have HG := Aside0.mk h
  have HR0 := Aside0.mk hr0
  have HC0 := Aside0.mk hc0
  have HR1 := Aside0.mk hr1
  have HC1 := Aside0.mk hc1
  have H0 := Aside0.mk hs0
  have H1 := Aside0.mk hs1
  have HE := Aside0.mk (spec_plMonotone.empty l0.length hs0)
  have HO0 := Aside0.mk (show spec_l1Own.f l0 = some l0 from by simp [spec_l1Own.f]; omega)
  have HO1 := Aside0.mk (show spec_l1Own.f l1 = some l1 from by simp [spec_l1Own.f]; omega)
  clear h hr0 hc0 hr1 hc1 hk
  go_enter Try.func139, Try.ntmps139
  go_wp2_with (go_at_call 159; refine (spec_plEmpty.calls (l0.length + 1) (l0.length : Int) _ w HE.out).mono ?_; rintro e w1 ⟨v, rfl, hS, hB⟩; apply StopI)
  have O5 := Aside0.mk (OwnSS.new hS (Below.refl w.heap.size w))
  have HB := Aside0.mk hB
  clear hS hB
  obtain ⟨A, c, e_, hle⟩ := O5.out.reads
  subst e_
  obtain ⟨n, hn⟩ : ∃ n, (impl_square.tab (fun _ _ => 0) l0.length l0.length).length = n := ⟨_, rfl⟩
  rw [hn] at O5 hle ⊢
  have HN := Aside0.mk hn
  clear hn
  unfold Stop
  go_wp2_with (refine (spec_l1Own.calls _ _ l0 l0 _ (Kd.C_below HR0.out HB.out) HC0.out HO0.out).mono ?_; rintro e w2 ⟨v0, rfl, ho, hb⟩; apply StopI)
  have O6 := Aside0.mk (OwnR.new ho HB.out)
  have n0_ := Aside0.mk (O5.out.step hb)
  have n1_ := Aside0.mk (below_step HB.out hb)
  have HZ0 := Aside0.mk HB.out.size
  have HZ1 := Aside0.mk hb.size
  clear O5 HB ho hb
  have O5 := n0_
  have HB := n1_
  clear n0_ n1_
  obtain ⟨Aa, ca, e_, hla⟩ := O6.out.reads
  subst e_
  unfold Stop
  go_wp2_with (refine (spec_l1Own.calls _ _ l1 l1 _ (Kd.C_below HR1.out HB.out) HC1.out HO1.out).mono ?_; rintro e w3 ⟨v1, rfl, ho, hb⟩; apply StopI)
  have O7 := Aside0.mk (OwnR.new ho HB.out)
  have n0_ := Aside0.mk (O5.out.step hb)
  have n1_ := Aside0.mk (below_step HB.out hb)
  have n2_ := Aside0.mk (O6.out.step hb)
  have HZ2 := Aside0.mk hb.size
  clear O5 O6 HB ho hb
  have O5 := n0_
  have HB := n1_
  have O6 := n2_
  clear n0_ n1_ n2_
  obtain ⟨Ab, cb, e_, hlb⟩ := O7.out.reads
  subst e_
  unfold Stop
  go_wp2
  go_loopg [8, 9, 10] k (fun gg s8 s9 _ W => ∃ (i j kk : Nat) (x y : List Int) (s : List (List Int)), s8 = .int .i64 (i : Int) ∧ s9 = .int .i64 (j : Int) ∧ kk ≤ gg ∧ Aside0 (impl_carry.go kk s x y i j = some r) ∧ Aside0 (x.length = l0.length) ∧ Aside0 (y.length = l1.length) ∧ Aside0 (OwnSS w W w.heap.size w1.heap.size (.slice A n c) s) ∧ Aside0 (OwnR (Kd.int .i64) 3 w W w1.heap.size w2.heap.size (.slice Aa l0.length ca) x) ∧ Aside0 (OwnR (Kd.int .i64) 3 w W w2.heap.size w3.heap.size (.slice Ab l1.length cb) y) ∧ Aside0 (Below w.heap.size w W))
  case atStart => exact ⟨0, 0, k, l0, l1, _, rfl, rfl, Nat.le_refl _, HG, ⟨rfl⟩, ⟨rfl⟩, O5, O6, O7, HB⟩
  case round =>
    clear O5 O6 O7 HB HG HR0 HR1 HE HO0 HO1
    obtain ⟨i, j, kk, x, y, s, rfl, rfl, hkg, HG, HX, HY, O5, O6, O7, HB⟩ := hrel
    cases kk with
    | zero => exact absurd HG.out (by simp [impl_carry.go])
    | succ kk =>
      have H := HG.out
      clear HG
      simp only [impl_carry.go] at H
      by_cases hc : i < x.length ∧ j < y.length
      · rw [if_pos hc] at H
        by_cases hs : i < s.length ∧ j < (s.getD i []).length
        · rw [if_pos hs] at H
          obtain ⟨hi, hj⟩ := hc
          obtain ⟨hsi, hsj⟩ := hs
          have hn0 : s.length = n := (Kd.S_reads' O5.out.s).1.symm
          have hil : i < l0.length := by rw [← HX.out]; exact hi
          have hjl : j < l1.length := by rw [← HY.out]; exact hj
          have hilz : (i : Int) < (l0.length : Int) := by omega
          have hjlz : (j : Int) < (l1.length : Int) := by omega
          have hiz : (0 : Int) ≤ (i : Int) := by omega
          have hjz : (0 : Int) ≤ (j : Int) := by omega
          obtain ⟨g0, e0⟩ := O6.out.form (by omega)
          obtain ⟨g1, e1⟩ := O7.out.form (by omega)
          subst e0
          subst e1
          have hb0 := O6.out.blk
          have hb1 := O7.out.blk
          obtain ⟨a, ha⟩ : ∃ a, x.getD i 0 = a := ⟨_, rfl⟩
          obtain ⟨b, hb⟩ : ∃ b, y.getD j 0 = b := ⟨_, rfl⟩
          obtain ⟨hx0, hfx0⟩ := O6.out.cell i hil a ha
          obtain ⟨hy0, hfy0⟩ := O7.out.cell j hjl b hb
          rw [ha, hb] at H
          obtain ⟨u, hu⟩ : ∃ u, mn a b = u := ⟨_, rfl⟩
          rw [hu] at H
          have hu_ : spec_l1Least.f a b = some u := by rw [← hu]; unfold spec_l1Least.f mn; by_cases h1 : a < b <;> by_cases h2 : b < a <;> simp [h1, h2] <;> omega
          obtain ⟨g, gi, ci, e2, h1, h2, h3, h4, h5, h7⟩ := O5.out.put i j hsi hsj
          subst e2
          have hinz : (i : Int) < (n : Int) := by omega
          have hjnz : (j : Int) < ((s.getD i []).length : Int) := by omega
          obtain ⟨t, ht⟩ : ∃ t, (s.getD i []).getD j 0 = t := ⟨_, rfl⟩
          obtain ⟨m, hm⟩ : ∃ m, (s.getD i []).length = m := ⟨_, rfl⟩
          rw [ht] at h2
          rw [hm] at h1 hjnz
          have HP := Aside0.mk (show OwnSS w (wr.setCell ⟨gi, j, none⟩ (.int .i64 (wrap64 (t + u)))) w.heap.size w1.heap.size (.slice (some ⟨g, 0, none⟩) n c) (impl_carry.put s i j u) from by unfold impl_carry.put; rw [ht]; exact h7 _)
          have HA := Aside0.mk ha
          have HBb := Aside0.mk hb
          have HH := Aside0.mk H
          have HB0 := Aside0.mk hb0
          have HB1 := Aside0.mk hb1
          have HGI := Aside0.mk (And.intro h4 h5)
          have HU := Aside0.mk hu_
          clear ha hb hu hu_ H hb0 hb1 hi hj h4 h5 h7 ht hm hsi hsj hn0
          by_cases hz : wrap64 (a - u) = 0
          all_goals
            have HH1 := HH.out
            first | rw [if_pos hz] at HH1 | rw [if_neg hz] at HH1
            have HH2 := Aside0.mk HH1
            have HZ_ := Aside0.mk hz
            clear hz HH1 HH
            go_wp2_with fail
            go_quiet (first | (go_at_call 152; (refine (spec_l1Least.calls a b u _ HU.out).mono ?_); rintro e w' ⟨rfl, ⟨nd, rfl⟩⟩; (try first | exact ⟨rfl, _, World.drewN_drewN _ _ _⟩ | exact ⟨rfl, _, Eq.trans (World.drewN_drewN _ _ _) (congrArg (World.drewN _) (Nat.add_assoc _ _ _))⟩)))
            go_wp2_with ((with_reducible refine gate_store (t := 3) (p := 46) rfl ?_); refine store_event (t := 3) (p := 46) (v := ?vo_w5) (w1 := (wr.drewN nq).setCell ⟨gi, j, none⟩ (.int .i64 (wrap64 (t + u)))) ?hg ?ho ?hn ?hr ?_; (case ho => rfl); (case hg => rfl); (case hn => rfl); (case hr => first | (go_simp; done) | (go_simp; rfl)); intro w5 hw; apply StopI)
            have n0_ := Aside0.mk (by rw [hw]; exact HP.out.step (pw_below_drewN (Below.refl _ _) nq) : OwnSS w w5 w.heap.size w1.heap.size (.slice (some ⟨g, 0, none⟩) n c) (impl_carry.put s i j u))
            have n1_ := Aside0.mk (by rw [hw]; exact (O6.out.step (pw_below_drewN (Below.refl _ _) nq)).far (by have := HGI.out; have := HB0.out; have := HB1.out; have := HZ0.out; have := HZ1.out; have := HZ2.out; simp only []; omega) _ : OwnR (Kd.int .i64) 3 w w5 w1.heap.size w2.heap.size (.slice (some ⟨g0, 0, none⟩) l0.length ca) x)
            have n2_ := Aside0.mk (by rw [hw]; exact (O7.out.step (pw_below_drewN (Below.refl _ _) nq)).far (by have := HGI.out; have := HB0.out; have := HB1.out; have := HZ0.out; have := HZ1.out; have := HZ2.out; simp only []; omega) _ : OwnR (Kd.int .i64) 3 w w5 w2.heap.size w3.heap.size (.slice (some ⟨g1, 0, none⟩) l1.length cb) y)
            have n3_ := Aside0.mk (by rw [hw]; exact below_set (pw_below_drewN HB.out nq) HGI.out.1 : Below w.heap.size w w5)
            clear O5 O6 O7 HB hw
            have O5 := n0_
            have O6 := n1_
            have O7 := n2_
            have HB := n3_
            clear n0_ n1_ n2_ n3_
            obtain ⟨hx5, hfx5⟩ := O6.out.cell i hil a HA.out
            unfold Stop
            go_wp2_with ((with_reducible refine gate_store (t := 3) (p := 53) rfl ?_); refine store_event (t := 3) (p := 53) (v := ?vo_w6) (w1 := w5.setCell ⟨g0, i, none⟩ (.int .i64 (wrap64 (a - u)))) ?hg ?ho ?hn ?hr ?_; (case ho => rfl); (case hg => rfl); (case hn => rfl); (case hr => first | (go_simp; done) | (go_simp; rfl)); intro w6 hw; apply StopI)
            have n0_ := Aside0.mk (by rw [hw]; exact O5.out.far (by have := HGI.out; have := HB0.out; have := HB1.out; have := HZ0.out; have := HZ1.out; have := HZ2.out; simp only []; omega) _ : OwnSS w w6 w.heap.size w1.heap.size (.slice (some ⟨g, 0, none⟩) n c) (impl_carry.put s i j u))
            have n1_ := Aside0.mk (by rw [hw]; exact O6.out.put i (wrap64 (a - u)) : OwnR (Kd.int .i64) 3 w w6 w1.heap.size w2.heap.size (.slice (some ⟨g0, 0, none⟩) l0.length ca) (x.set i (wrap64 (a - u))))
            have n2_ := Aside0.mk (by rw [hw]; exact O7.out.far (by have := HGI.out; have := HB0.out; have := HB1.out; have := HZ0.out; have := HZ1.out; have := HZ2.out; simp only []; omega) _ : OwnR (Kd.int .i64) 3 w w6 w2.heap.size w3.heap.size (.slice (some ⟨g1, 0, none⟩) l1.length cb) y)
            have n3_ := Aside0.mk (by rw [hw]; exact below_set HB.out (Nat.le_trans HZ0.out HB0.out.1) : Below w.heap.size w w6)
            clear hx5 hfx5
            clear O5 O6 O7 HB hw
            have O5 := n0_
            have O6 := n1_
            have O7 := n2_
            have HB := n3_
            clear n0_ n1_ n2_ n3_
            obtain ⟨hy6, hfy6⟩ := O7.out.cell j hjl b HBb.out
            unfold Stop
            go_wp2_with ((with_reducible refine gate_store (t := 3) (p := 60) rfl ?_); refine store_event (t := 3) (p := 60) (v := ?vo_w7) (w1 := w6.setCell ⟨g1, j, none⟩ (.int .i64 (wrap64 (b - u)))) ?hg ?ho ?hn ?hr ?_; (case ho => rfl); (case hg => rfl); (case hn => rfl); (case hr => first | (go_simp; done) | (go_simp; rfl)); intro w7 hw; apply StopI)
            have n0_ := Aside0.mk (by rw [hw]; exact O5.out.far (by have := HGI.out; have := HB0.out; have := HB1.out; have := HZ0.out; have := HZ1.out; have := HZ2.out; simp only []; omega) _ : OwnSS w w7 w.heap.size w1.heap.size (.slice (some ⟨g, 0, none⟩) n c) (impl_carry.put s i j u))
            have n1_ := Aside0.mk (by rw [hw]; exact O6.out.far (by have := HGI.out; have := HB0.out; have := HB1.out; have := HZ0.out; have := HZ1.out; have := HZ2.out; simp only []; omega) _ : OwnR (Kd.int .i64) 3 w w7 w1.heap.size w2.heap.size (.slice (some ⟨g0, 0, none⟩) l0.length ca) (x.set i (wrap64 (a - u))))
            have n2_ := Aside0.mk (by rw [hw]; exact O7.out.put j (wrap64 (b - u)) : OwnR (Kd.int .i64) 3 w w7 w2.heap.size w3.heap.size (.slice (some ⟨g1, 0, none⟩) l1.length cb) (y.set j (wrap64 (b - u))))
            have n3_ := Aside0.mk (by rw [hw]; exact below_set HB.out (Nat.le_trans HZ0.out (Nat.le_trans HZ1.out HB1.out.1)) : Below w.heap.size w w7)
            clear hy6 hfy6
            clear O5 O6 O7 HB hw
            have O5 := n0_
            have O6 := n1_
            have O7 := n2_
            have HB := n3_
            clear n0_ n1_ n2_ n3_
            obtain ⟨hx7, hfx7⟩ := O6.out.cell i hil (wrap64 (a - u)) (by rw [List.getD_eq_getElem?_getD, List.getElem?_set_self (by have := HX.out; omega)]; rfl)
            have hz := HZ_.out
            unfold Stop
            go_wp2_with fail
          · go_roundg kk
            case measure => omega
            case rel => exact ⟨i + 1, j, kk, _, _, _, by go_num, rfl, Nat.le_refl _, HH2, ⟨by rw [List.length_set]; exact HX.out⟩, ⟨by rw [List.length_set]; exact HY.out⟩, O5, O6, O7, HB⟩
          · go_roundg kk
            case measure => omega
            case rel => exact ⟨i, j + 1, kk, _, _, _, rfl, by go_num, Nat.le_refl _, HH2, ⟨by rw [List.length_set]; exact HX.out⟩, ⟨by rw [List.length_set]; exact HY.out⟩, O5, O6, O7, HB⟩
        · rw [if_neg hs] at H
          cases H
      · rw [if_neg hc] at H
        obtain rfl := Option.some.inj H
        have hcz : (i : Int) < (l0.length : Int) → ¬ (j : Int) < (l1.length : Int) := by have := HX.out; have := HY.out; omega
        by_cases h1z : (i : Int) < (l0.length : Int)
        · have h2z := hcz h1z
          clear hc hcz
          go_wp2
          go_ret
          exact ⟨_, rfl, Kd.S_mono O5.out.s (fun _ _ => trivial), HB.out⟩
        · clear hc hcz
          go_wp2
          go_ret
          exact ⟨_, rfl, Kd.S_mono O5.out.s (fun _ _ => trivial), HB.out⟩

end Go.Proofs.Ytllnieknogficaa.K
namespace Go.Proofs.Ytllnieknogficaa.K
open Go.RowKit Go.Proofs.YtllnieknogficaaW.PrintWords Go.Proofs.YtllnieknogficaaW.PrintLast Go.Proofs.YtllnieknogficaaW.PrintMore
attribute [local go_sem] max2_int min2_int max_two min_two max_three min_three max_four min_four   -- for this text's walks alone
set_option linter.unusedVariables false
set_option linter.unusedSimpArgs false
theorem put_shape (s : List (List Int)) (n i j : Nat) (u : Int) (hs : s.length = n) (hr : ∀ r ∈ s, r.length = n) : (impl_carry.put s i j u).length = n ∧ ∀ r ∈ impl_carry.put s i j u, r.length = n := by
  refine ⟨by simp [impl_carry.put, hs], fun r h => ?_⟩
  unfold impl_carry.put at h
  by_cases hi : i < s.length
  · rcases List.mem_or_eq_of_mem_set h with h | h
    · exact hr r h
    · subst h
      rw [List.length_set, List.getD_eq_getElem?_getD, List.getElem?_eq_getElem hi]
      exact hr _ (List.getElem_mem hi)
  · rw [List.set_eq_of_length_le (by omega)] at h
    exact hr r h
theorem go_some (n : Nat) : ∀ k (s : List (List Int)) (x y : List Int) (i j : Nat), x.length = n → y.length = n → s.length = n → (∀ r ∈ s, r.length = n) → (n - i) + (n - j) < k →
    ∃ R, impl_carry.go k s x y i j = some R ∧ R.length = n ∧ ∀ r ∈ R, r.length = n := by
  intro k
  induction k with
  | zero => intro s x y i j _ _ _ _ h; omega
  | succ k ih =>
    intro s x y i j hx hy hs hr hk
    simp only [impl_carry.go]
    by_cases hc : i < x.length ∧ j < y.length
    · rw [if_pos hc]
      have hrow : (s.getD i []).length = n := by
        rw [List.getD_eq_getElem?_getD, List.getElem?_eq_getElem (by omega)]
        exact hr _ (List.getElem_mem (by omega))
      rw [if_pos (by omega)]
      obtain ⟨p1, p2⟩ := put_shape s n i j (mn (x.getD i 0) (y.getD j 0)) hs hr
      split
      · exact ih _ _ _ _ _ (by simpa using hx) (by simpa using hy) p1 p2 (by omega)
      · exact ih _ _ _ _ _ (by simpa using hx) (by simpa using hy) p1 p2 (by omega)
    · rw [if_neg hc]
      exact ⟨s, rfl, hs, hr⟩
/-- The monotone plan of two lists of one length. -/
def monoP (a b : List Int) : List (List Int) := (impl_carry.go (a.length + b.length + 1) (impl_square.tab (fun _ _ => 0) a.length a.length) a b 0 0).getD []
theorem mono_some (a b : List Int) (h : a.length = b.length) : impl_carry.go (a.length + b.length + 1) (impl_square.tab (fun _ _ => 0) a.length a.length) a b 0 0 = some (monoP a b) ∧ (monoP a b).length = a.length ∧ ∀ r ∈ monoP a b, r.length = a.length := by
  obtain ⟨R, h1, h2, h3⟩ := go_some a.length (a.length + b.length + 1) (impl_square.tab (fun _ _ => 0) a.length a.length) a b 0 0 rfl h.symm (by simp [impl_square.tab]) (by simp [impl_square.tab]) (by omega)
  have : monoP a b = R := by unfold monoP; rw [h1]; rfl
  rw [this]
  exact ⟨h1, h2, h3⟩
theorem implMono (a b : List Int) (h : a.length = b.length) (hl : a.length ≤ 1048576) : impl_monotone.f a b = some (monoP a b) := by
  unfold impl_monotone.f
  rw [if_pos (by omega)]
  exact (mono_some a b h).1
theorem specMono (a b : List Int) (h : a.length = b.length) (hl : a.length ≤ 1048576) : spec_plMonotone.f a b = some (monoP a b) := by
  unfold spec_plMonotone.f
  rw [if_pos (by omega)]
  exact (mono_some a b h).1
theorem monoP_small (a b : List Int) (h : fitB a b = true) : (monoP a b).length ≤ 1048576 ∧ (∀ r ∈ monoP a b, r.length ≤ 1048576) ∧ laws_markIntSS.tot (monoP a b) ≤ 1048576 := by
  obtain ⟨h1, h2, h3, _⟩ := (fitB_iff a b).1 h
  obtain ⟨_, h4, _⟩ := (listB_iff a).1 h1
  obtain ⟨_, g2, g3⟩ := mono_some a b h3
  have ht := tot_le_mul a.length (monoP a b) (fun r hr => by rw [g3 r hr]; exact Nat.le_refl _)
  rw [g2] at ht
  have := Nat.mul_le_mul h4 h4
  exact ⟨by omega, fun r hr => by rw [g3 r hr]; omega, by omega⟩
def cellAt (l : List (List Int)) (i j : Nat) : Int := (l.getD i []).getD j 0
theorem put_cell (s : List (List Int)) (i j : Nat) (u : Int) (hi : i < s.length) (hj : j < (s.getD i []).length) (p q : Nat) : cellAt (impl_carry.put s i j u) p q = if p = i ∧ q = j then wrap64 (cellAt s i j + u) else cellAt s p q := by
  have e1 : (impl_carry.put s i j u).getD p [] = if p = i then (s.getD i []).set j (wrap64 (cellAt s i j + u)) else s.getD p [] := by
    unfold impl_carry.put cellAt
    by_cases hp : p = i
    · subst hp
      rw [if_pos rfl, List.getD_eq_getElem?_getD, List.getElem?_set_self hi]; rfl
    · rw [if_neg hp, List.getD_eq_getElem?_getD, List.getElem?_set_ne (fun h => hp h.symm), ← List.getD_eq_getElem?_getD]
  show ((impl_carry.put s i j u).getD p []).getD q 0 = _
  rw [e1]
  by_cases hp : p = i
  · subst hp
    rw [if_pos rfl]
    by_cases hq : q = j
    · subst hq
      rw [if_pos ⟨rfl, rfl⟩, List.getD_eq_getElem?_getD, List.getElem?_set_self hj]; rfl
    · rw [if_neg (fun h => hq h.2), List.getD_eq_getElem?_getD, List.getElem?_set_ne (fun h => hq h.symm), ← List.getD_eq_getElem?_getD]
      rfl
  · rw [if_neg hp, if_neg (fun h => hp h.1)]
    rfl
theorem getD_set (l : List Int) (i : Nat) (v : Int) (hi : i < l.length) (q : Nat) : (l.set i v).getD q 0 = if q = i then v else l.getD q 0 := by
  by_cases hq : q = i
  · subst hq
    rw [if_pos rfl, List.getD_eq_getElem?_getD, List.getElem?_set_self hi]; rfl
  · rw [if_neg hq, List.getD_eq_getElem?_getD, List.getElem?_set_ne (fun h => hq h.symm), ← List.getD_eq_getElem?_getD]
theorem go_bound : ∀ k (s : List (List Int)) (x y : List Int) (i j : Nat) (R : List (List Int)), (∀ q, 0 ≤ x.getD q 0 ∧ x.getD q 0 ≤ 60) → (∀ q, 0 ≤ y.getD q 0 ∧ y.getD q 0 ≤ 60) → (∀ p q, 0 ≤ cellAt s p q ∧ cellAt s p q ≤ 60) → (∀ p q, i ≤ p → j ≤ q → cellAt s p q = 0) →
    impl_carry.go k s x y i j = some R → ∀ p q, 0 ≤ cellAt R p q ∧ cellAt R p q ≤ 60 := by
  intro k
  induction k with
  | zero => intro s x y i j R _ _ _ _ h; simp [impl_carry.go] at h
  | succ k ih =>
    intro s x y i j R hx hy hs hz h
    simp only [impl_carry.go] at h
    by_cases hc : i < x.length ∧ j < y.length
    · rw [if_pos hc] at h
      by_cases hb : i < s.length ∧ j < (s.getD i []).length
      · rw [if_pos hb] at h
        obtain ⟨u, hu⟩ : ∃ u, mn (x.getD i 0) (y.getD j 0) = u := ⟨_, rfl⟩
        rw [hu] at h
        have hxi := hx i
        have hyj := hy j
        have hu2 : 0 ≤ u ∧ u ≤ x.getD i 0 ∧ u ≤ y.getD j 0 ∧ (u = x.getD i 0 ∨ u = y.getD j 0) := by
          rw [← hu]; unfold mn
          by_cases h2 : y.getD j 0 < x.getD i 0
          · rw [if_pos h2]; omega
          · rw [if_neg h2]; omega
        have w1 : wrap64 (x.getD i 0 - u) = x.getD i 0 - u := wrap64_id (by omega) (by omega)
        have w2 : wrap64 (y.getD j 0 - u) = y.getD j 0 - u := wrap64_id (by omega) (by omega)
        have w3 : wrap64 (cellAt s i j + u) = u := by rw [hz i j (Nat.le_refl _) (Nat.le_refl _)]; rw [wrap64_id (by omega) (by omega)]; omega
        rw [w1, w2] at h
        have hx' : ∀ q, 0 ≤ (x.set i (x.getD i 0 - u)).getD q 0 ∧ (x.set i (x.getD i 0 - u)).getD q 0 ≤ 60 := fun q => by
          rw [getD_set x i _ hc.1]
          split
          · omega
          · exact hx q
        have hy' : ∀ q, 0 ≤ (y.set j (y.getD j 0 - u)).getD q 0 ∧ (y.set j (y.getD j 0 - u)).getD q 0 ≤ 60 := fun q => by
          rw [getD_set y j _ hc.2]
          split
          · omega
          · exact hy q
        have hs' : ∀ p q, 0 ≤ cellAt (impl_carry.put s i j u) p q ∧ cellAt (impl_carry.put s i j u) p q ≤ 60 := fun p q => by
          rw [put_cell s i j u hb.1 hb.2]
          split
          · rw [w3]; omega
          · exact hs p q
        by_cases hd : x.getD i 0 - u = 0
        · rw [if_pos hd] at h
          refine ih _ _ _ _ _ R hx' hy' hs' (fun p q hp hq => ?_) h
          rw [put_cell s i j u hb.1 hb.2, if_neg (by omega)]
          exact hz p q (by omega) hq
        · rw [if_neg hd] at h
          refine ih _ _ _ _ _ R hx' hy' hs' (fun p q hp hq => ?_) h
          rw [put_cell s i j u hb.1 hb.2, if_neg (by omega)]
          exact hz p q hp (by omega)
      · rw [if_neg hb] at h; cases h
    · rw [if_neg hc] at h
      obtain rfl := Option.some.inj h
      exact hs
theorem tab0_cell (n p q : Nat) : cellAt (impl_square.tab (fun _ _ => 0) n n) p q = 0 := by
  have e : impl_square.tab (fun _ _ => 0) n n = List.replicate n (List.replicate n 0) := by simp [impl_square.tab, List.map_const']
  rw [e]; unfold cellAt
  simp only [List.getD_eq_getElem?_getD, List.getElem?_replicate]
  split
  · simp only [Option.getD_some, List.getElem?_replicate]; split <;> rfl
  · rfl
theorem list_getD (a : List Int) (h : listB a = true) (q : Nat) : 0 ≤ a.getD q 0 ∧ a.getD q 0 ≤ 60 := by
  obtain ⟨_, _, h3⟩ := (listB_iff a).1 h
  rw [List.getD_eq_getElem?_getD]
  by_cases hq : q < a.length
  · rw [List.getElem?_eq_getElem hq]; exact h3 _ (List.getElem_mem hq)
  · rw [List.getElem?_eq_none (by omega)]; simp
theorem monoP_cells (a b : List Int) (h : fitB a b = true) (p q : Nat) : 0 ≤ cellAt (monoP a b) p q ∧ cellAt (monoP a b) p q ≤ 60 := by
  obtain ⟨h1, h2, h3, _⟩ := (fitB_iff a b).1 h
  exact go_bound _ _ a b 0 0 _ (list_getD a h1) (list_getD b h2) (fun p q => by rw [tab0_cell]; omega) (fun p q _ _ => tab0_cell _ p q) (mono_some a b h3).1 p q
end Go.Proofs.Ytllnieknogficaa.K
namespace Go.Proofs.Ytllnieknogficaa.K
open Go.RowKit Go.Proofs.YtllnieknogficaaW.PrintWords Go.Proofs.YtllnieknogficaaW.PrintLast Go.Proofs.YtllnieknogficaaW.PrintMore
attribute [local go_sem] max2_int min2_int max_two min_two max_three min_three max_four min_four   -- for this text's walks alone
set_option linter.unusedVariables false
set_option linter.unusedSimpArgs false

/-! ### impl_crossing: function 141 -/
mutual
def impl_crossing.l0 : Nat → List (List Int) → List (List Int) → Int → Int → Option (Int × Int × Int × Int × Bool)
  | 0, _, _, _, _ => none
  | k + 1, x0, x11, x12, x13 => if x13 < x12 then (if 0 ≤ x13 then (if x13 < (x11.length : Int) then (impl_crossing.l1 k x0 x13 x11 x12 x13 (rd_L2 x11 x13) ((rd_L2 x11 x13).length : Int) 0) else (none)) else (none)) else (some (0, 0, 0, 0, false))
def impl_crossing.l1 : Nat → List (List Int) → Int → List (List Int) → Int → Int → List Int → Int → Int → Option (Int × Int × Int × Int × Bool)
  | 0, _, _, _, _, _, _, _, _ => none
  | k + 1, x0, x5, x11, x12, x13, x18, x19, x20 => if x20 < x19 then (if 0 ≤ x20 then (if x20 < (x18.length : Int) then (if (rd x18 x20) = 0 then (impl_crossing.l1 k x0 x5 x11 x12 x13 x18 x19 (wrap64 (x20 + 1))) else (impl_crossing.l2 k x0 x5 x20 (wrap64 (x5 + 1)) x11 x12 x13 x18 x19 x20)) else (none)) else (none)) else (impl_crossing.l0 k x0 x11 x12 (wrap64 (x13 + 1)))
def impl_crossing.l2 : Nat → List (List Int) → Int → Int → Int → List (List Int) → Int → Int → List Int → Int → Int → Option (Int × Int × Int × Int × Bool)
  | 0, _, _, _, _, _, _, _, _, _, _ => none
  | k + 1, x0, x5, x7, x9, x11, x12, x13, x18, x19, x20 => if x9 < (x0.length : Int) then (impl_crossing.l3 k x0 x5 x7 x9 x11 x12 x13 x18 x19 x20 x7 0) else (impl_crossing.l1 k x0 x5 x11 x12 x13 x18 x19 (wrap64 (x20 + 1)))
def impl_crossing.l3 : Nat → List (List Int) → Int → Int → Int → List (List Int) → Int → Int → List Int → Int → Int → Int → Int → Option (Int × Int × Int × Int × Bool)
  | 0, _, _, _, _, _, _, _, _, _, _, _, _ => none
  | k + 1, x0, x5, x7, x9, x11, x12, x13, x18, x19, x20, x35, x36 => if x36 < x35 then (if 0 ≤ x9 then (if x9 < (x0.length : Int) then (if 0 ≤ x36 then (if x36 < ((rd_L2 x0 x9).length : Int) then (if (rd (rd_L2 x0 x9) x36) > 0 then (some (x5, x7, x9, x36, true)) else (impl_crossing.l3 k x0 x5 x7 x9 x11 x12 x13 x18 x19 x20 x35 (wrap64 (x36 + 1)))) else (none)) else (none)) else (none)) else (none)) else (impl_crossing.l2 k x0 x5 x7 (wrap64 (x9 + 1)) x11 x12 x13 x18 x19 x20)
end
def impl_crossing.f (k : Nat) (l0 : List (List Int)) : Option (Int × Int × Int × Int × Bool) := impl_crossing.l0 k l0 l0 (l0.length : Int) 0
theorem impl_crossing.mono_l : ∀ k, (∀ y0 y1 y2 y3, LeO (impl_crossing.l0 k y0 y1 y2 y3) (impl_crossing.l0 (k + 1) y0 y1 y2 y3)) ∧ (∀ y0 y1 y2 y3 y4 y5 y6 y7, LeO (impl_crossing.l1 k y0 y1 y2 y3 y4 y5 y6 y7) (impl_crossing.l1 (k + 1) y0 y1 y2 y3 y4 y5 y6 y7)) ∧ (∀ y0 y1 y2 y3 y4 y5 y6 y7 y8 y9, LeO (impl_crossing.l2 k y0 y1 y2 y3 y4 y5 y6 y7 y8 y9) (impl_crossing.l2 (k + 1) y0 y1 y2 y3 y4 y5 y6 y7 y8 y9)) ∧ (∀ y0 y1 y2 y3 y4 y5 y6 y7 y8 y9 y10 y11, LeO (impl_crossing.l3 k y0 y1 y2 y3 y4 y5 y6 y7 y8 y9 y10 y11) (impl_crossing.l3 (k + 1) y0 y1 y2 y3 y4 y5 y6 y7 y8 y9 y10 y11))
  | 0 => ⟨fun _ _ _ _ r h => by simp [impl_crossing.l0] at h, fun _ _ _ _ _ _ _ _ r h => by simp [impl_crossing.l1] at h, fun _ _ _ _ _ _ _ _ _ _ r h => by simp [impl_crossing.l2] at h, fun _ _ _ _ _ _ _ _ _ _ _ _ r h => by simp [impl_crossing.l3] at h⟩
  | k + 1 => by
    obtain ⟨ih0, ih1, ih2, ih3⟩ := impl_crossing.mono_l k
    refine ⟨?_, ?_, ?_, ?_⟩
    · intro y0 y1 y2 y3
      unfold impl_crossing.l0
      repeat' first
      | (with_reducible exact ih0 _ _ _ _)
      | (with_reducible exact ih1 _ _ _ _ _ _ _ _)
      | (with_reducible exact ih2 _ _ _ _ _ _ _ _ _ _)
      | (with_reducible exact ih3 _ _ _ _ _ _ _ _ _ _ _ _)
      | (with_reducible exact LeO.refl _)
      | (with_reducible exact LeO.none _)
      | (with_reducible refine LeO.ite ?_ ?_)
      | (with_reducible refine LeO.bind ?_ (fun _ => ?_))
      | exact ih0 _ _ _ _
      | exact ih1 _ _ _ _ _ _ _ _
      | exact ih2 _ _ _ _ _ _ _ _ _ _
      | exact ih3 _ _ _ _ _ _ _ _ _ _ _ _
      | exact LeO.none _
      | refine LeO.ite ?_ ?_
      | refine LeO.bind ?_ (fun _ => ?_)
    · intro y0 y1 y2 y3 y4 y5 y6 y7
      unfold impl_crossing.l1
      repeat' first
      | (with_reducible exact ih0 _ _ _ _)
      | (with_reducible exact ih1 _ _ _ _ _ _ _ _)
      | (with_reducible exact ih2 _ _ _ _ _ _ _ _ _ _)
      | (with_reducible exact ih3 _ _ _ _ _ _ _ _ _ _ _ _)
      | (with_reducible exact LeO.refl _)
      | (with_reducible exact LeO.none _)
      | (with_reducible refine LeO.ite ?_ ?_)
      | (with_reducible refine LeO.bind ?_ (fun _ => ?_))
      | exact ih0 _ _ _ _
      | exact ih1 _ _ _ _ _ _ _ _
      | exact ih2 _ _ _ _ _ _ _ _ _ _
      | exact ih3 _ _ _ _ _ _ _ _ _ _ _ _
      | exact LeO.none _
      | refine LeO.ite ?_ ?_
      | refine LeO.bind ?_ (fun _ => ?_)
    · intro y0 y1 y2 y3 y4 y5 y6 y7 y8 y9
      unfold impl_crossing.l2
      repeat' first
      | (with_reducible exact ih0 _ _ _ _)
      | (with_reducible exact ih1 _ _ _ _ _ _ _ _)
      | (with_reducible exact ih2 _ _ _ _ _ _ _ _ _ _)
      | (with_reducible exact ih3 _ _ _ _ _ _ _ _ _ _ _ _)
      | (with_reducible exact LeO.refl _)
      | (with_reducible exact LeO.none _)
      | (with_reducible refine LeO.ite ?_ ?_)
      | (with_reducible refine LeO.bind ?_ (fun _ => ?_))
      | exact ih0 _ _ _ _
      | exact ih1 _ _ _ _ _ _ _ _
      | exact ih2 _ _ _ _ _ _ _ _ _ _
      | exact ih3 _ _ _ _ _ _ _ _ _ _ _ _
      | exact LeO.none _
      | refine LeO.ite ?_ ?_
      | refine LeO.bind ?_ (fun _ => ?_)
    · intro y0 y1 y2 y3 y4 y5 y6 y7 y8 y9 y10 y11
      unfold impl_crossing.l3
      repeat' first
      | (with_reducible exact ih0 _ _ _ _)
      | (with_reducible exact ih1 _ _ _ _ _ _ _ _)
      | (with_reducible exact ih2 _ _ _ _ _ _ _ _ _ _)
      | (with_reducible exact ih3 _ _ _ _ _ _ _ _ _ _ _ _)
      | (with_reducible exact LeO.refl _)
      | (with_reducible exact LeO.none _)
      | (with_reducible refine LeO.ite ?_ ?_)
      | (with_reducible refine LeO.bind ?_ (fun _ => ?_))
      | exact ih0 _ _ _ _
      | exact ih1 _ _ _ _ _ _ _ _
      | exact ih2 _ _ _ _ _ _ _ _ _ _
      | exact ih3 _ _ _ _ _ _ _ _ _ _ _ _
      | exact LeO.none _
      | refine LeO.ite ?_ ?_
      | refine LeO.bind ?_ (fun _ => ?_)
theorem impl_crossing.mono : ∀ a0 k, LeO (impl_crossing.f k a0) (impl_crossing.f (k + 1) a0) := by
  intro a0 k
  obtain ⟨ih0, ih1, ih2, ih3⟩ := impl_crossing.mono_l k
  unfold impl_crossing.f
  repeat' first
      | (with_reducible exact ih0 _ _ _ _)
      | (with_reducible exact ih1 _ _ _ _ _ _ _ _)
      | (with_reducible exact ih2 _ _ _ _ _ _ _ _ _ _)
      | (with_reducible exact ih3 _ _ _ _ _ _ _ _ _ _ _ _)
      | (with_reducible exact LeO.refl _)
      | (with_reducible exact LeO.none _)
      | (with_reducible refine LeO.ite ?_ ?_)
      | (with_reducible refine LeO.bind ?_ (fun _ => ?_))
      | exact ih0 _ _ _ _
      | exact ih1 _ _ _ _ _ _ _ _
      | exact ih2 _ _ _ _ _ _ _ _ _ _
      | exact ih3 _ _ _ _ _ _ _ _ _ _ _ _
      | exact LeO.none _
      | refine LeO.ite ?_ ?_
      | refine LeO.bind ?_ (fun _ => ?_)
set_option maxHeartbeats 8000000 in
set_option maxRecDepth 100000 in
theorem impl_crossing.calls (k : Nat) (A0 : Option Addr) (c0 : Nat) (l0 : List (List Int)) (r1 : Int) (r2 : Int) (r3 : Int) (r4 : Int) (r5 : Bool) (w : World) (hr0 : Kd.C (Kd.slice 3 (Kd.int .i64)) w A0 l0.length l0) (hc0 : l0.length ≤ c0) (h : impl_crossing.f k l0 = some (r1, r2, r3, r4, r5)) :
    Calls Try.prog 141 #[.slice A0 l0.length c0] w fun e w' => e = .returned (.tuple #[.agg #[.int .i64 r1, .int .i64 r2], .agg #[.int .i64 r3, .int .i64 r4], .bool r5]) ∧ Below w.heap.size w w' := by
  have hu70 := Try.underlying70
  have HR0 := Aside0.mk hr0
  have HC0 := Aside0.mk hc0
  clear hr0 hc0
  have HB := Aside0.mk (Below.refl w.heap.size w)
  have H : (impl_crossing.l0 k l0 l0 (l0.length : Int) 0) = some (r1, r2, r3, r4, r5) := h
  clear h
  have H' := Aside0.mk H
  clear H
  go_enter Try.func141, Try.ntmps141
  go_wp2_with (first | ((with_reducible refine gate_dst (N := 2) rfl ?_); refine box_event ?hg (N := 2) ?hd (cs := #[.int .i64 0, .int .i64 0]) (t := 70) ?hr ?_; (case hd => rfl); (case hg => rfl); (case hr => first | (go_simp; done) | (go_simp; rfl)); intro gb644 hg w2 hbox hb; have n0_ := Aside0.mk (below_step (by repeat (first | (with_reducible first | exact HB.out | apply below_alloc | apply pw_below_drewN | apply below_drew1) | exact HB.out)) hb); have n1_ := Aside0.mk (hbox); have n2_ := Aside0.mk ((by rw [hg]; exact (below_size (by repeat (first | (with_reducible first | exact HB.out | apply below_alloc | apply pw_below_drewN | apply below_drew1) | exact HB.out))) : w.heap.size ≤ gb644)); have n3_ := Aside0.mk ((by rw [hg]; exact (below_size (by repeat (first | (with_reducible first | exact HB.out | apply below_alloc | apply pw_below_drewN | apply below_drew1) | exact HB.out))) : w.heap.size ≤ gb644)); clear HB; have HB := n0_; have BK644 := n1_; have GW644 := n2_; have GE644 := n3_; clear n0_ n1_ n2_ n3_; clear hb hbox hg) | ((with_reducible refine gate_dst (N := 3) rfl ?_); refine box_event ?hg (N := 3) ?hd (cs := #[.int .i64 0, .int .i64 0]) (t := 70) ?hr ?_; (case hd => rfl); (case hg => rfl); (case hr => first | (go_simp; done) | (go_simp; rfl)); intro gb645 hg w3 hbox hb; have n0_ := Aside0.mk (blk_below (g := gb644) (o := .cells #[.int .i64 0, .int .i64 0] 70 (0, 0)) (by (with_reducible repeat (first | refine blk_drewN ?_ _ | refine blk_drew ?_ | refine blk_alloc ?_ _)); exact BK644.out) hb); have n1_ := Aside0.mk (below_step (by repeat (first | (with_reducible first | exact HB.out | apply below_alloc | apply pw_below_drewN | apply below_drew1 | refine below_set ?_ GE644.out) | exact HB.out)) hb); have n2_ := Aside0.mk (hbox); have n3_ := Aside0.mk ((by rw [hg]; exact (below_size (by repeat (first | (with_reducible first | exact HB.out | apply below_alloc | apply pw_below_drewN | apply below_drew1 | refine below_set ?_ GE644.out) | exact HB.out))) : w.heap.size ≤ gb645)); have n4_ := Aside0.mk ((by rw [hg]; exact (below_size (by repeat (first | (with_reducible first | exact HB.out | apply below_alloc | apply pw_below_drewN | apply below_drew1 | refine below_set ?_ GE644.out) | exact HB.out))) : w.heap.size ≤ gb645)); have n5_ := Aside0.mk ((by rw [hg]; exact Nat.ne_of_lt (blk_lt (g := gb644) (o := .cells #[.int .i64 0, .int .i64 0] 70 (0, 0)) (by (with_reducible repeat (first | refine blk_drewN ?_ _ | refine blk_drew ?_ | refine blk_alloc ?_ _)); exact BK644.out)) : gb644 ≠ gb645)); have n6_ := Aside0.mk ((by rw [hg]; exact Nat.ne_of_gt (blk_lt (g := gb644) (o := .cells #[.int .i64 0, .int .i64 0] 70 (0, 0)) (by (with_reducible repeat (first | refine blk_drewN ?_ _ | refine blk_drew ?_ | refine blk_alloc ?_ _)); exact BK644.out)) : gb645 ≠ gb644)); clear BK644; clear HB; have BK644 := n0_; have HB := n1_; have BK645 := n2_; have GW645 := n3_; have GE645 := n4_; have NB644_645 := n5_; have NB645_644 := n6_; clear n0_ n1_ n2_ n3_ n4_ n5_ n6_; clear hb hbox hg))
  go_loopg [13] k (fun kq v13 w' => ∃ (x13_1 : Int) (x645000_1 : Int) (x645001_1 : Int) (x646000_1 : Int) (x646001_1 : Int), v13 = .int .i64 x13_1 ∧ Aside0 (impl_crossing.l0 kq l0 l0 (l0.length : Int) x13_1 = some (r1, r2, r3, r4, r5)) ∧ Aside0 (kq ≤ k) ∧ Aside0 (w'.heap[gb644]? = some (.cells #[.int .i64 x645000_1, .int .i64 x645001_1] 70 (0, 0))) ∧ Aside0 (w'.heap[gb645]? = some (.cells #[.int .i64 x646000_1, .int .i64 x646001_1] 70 (0, 0))) ∧ Aside0 (Below w.heap.size w w'))
  case atStart => exact ⟨(0), (0), (0), (0), (0), (by first | rfl | (simp; done) | (simp [*]; done)), H', ⟨Nat.le_refl _⟩, ⟨by (with_reducible repeat (first | refine blk_drewN ?_ _ | refine blk_drew ?_ | refine blk_alloc ?_ _)); exact BK644.out⟩, ⟨by (with_reducible repeat (first | refine blk_drewN ?_ _ | refine blk_drew ?_ | refine blk_alloc ?_ _)); exact BK645.out⟩, ⟨by repeat (first | (with_reducible first | exact HB.out | apply below_alloc | apply pw_below_drewN | apply below_drew1 | refine below_set ?_ GE644.out | refine below_set ?_ GE645.out) | exact HB.out)⟩⟩
  case round =>
    clear H'
    try clear c1
    try clear p2
    obtain ⟨x13_1, x645000_1, x645001_1, x646000_1, x646001_1, rfl, HA, HK1, BK644, BK645, HB⟩ := hrel
    cases gk with
    | zero => exact absurd HA.out (by simp [impl_crossing.l0])
    | succ k1 =>
      have H := HA.out
      clear HA
      simp only [impl_crossing.l0] at H
      by_cases c4 : x13_1 < (l0.length : Int)
      · rw [if_pos c4] at H
        have c4b0 : decide (x13_1 < (l0.length : Int)) = true := decide_eq_true c4
        clear c4
        by_cases c5 : 0 ≤ x13_1
        · rw [if_pos c5] at H
          have c5b0 : decide (0 ≤ x13_1) = true := decide_eq_true c5
          clear c5
          by_cases c6 : x13_1 < (l0.length : Int)
          · rw [if_pos c6] at H
            have c6b0 : decide (x13_1 < (l0.length : Int)) = true := decide_eq_true c6
            clear c6
            have H' := Aside0.mk H
            clear H
            have p646 : 0 ≤ (x13_1 : Int) := of_decide_eq_true (by first | (with_reducible assumption) | assumption)
            have q646 : x13_1 < (l0.length : Int) := of_decide_eq_true (by first | (with_reducible assumption) | assumption)
            obtain ⟨ad646, A646_0, c646_0, e646, hx646_0, hl646_0, hi646_0⟩ := at_L2 HR0.out x13_1 p646 q646
            cases e646
            replace hx646_0 := (HB.out.cell (World.block_lt_of_cell? w _ hx646_0)).trans hx646_0
            have HR646_0 := Aside0.mk hi646_0
            have HC646_0 := Aside0.mk hl646_0
            clear hi646_0 hl646_0
            replace p646 := eq_true p646
            replace q646 := eq_true q646
            go_wp2
            go_loopg [20] k1 (fun kq v20 w' => ∃ (x20_2 : Int) (x645000_2 : Int) (x645001_2 : Int) (x646000_2 : Int) (x646001_2 : Int), v20 = .int .i64 x20_2 ∧ Aside0 (impl_crossing.l1 kq l0 x13_1 l0 (l0.length : Int) x13_1 (rd_L2 l0 x13_1) ((rd_L2 l0 x13_1).length : Int) x20_2 = some (r1, r2, r3, r4, r5)) ∧ Aside0 (kq ≤ k1) ∧ Aside0 (w'.heap[gb644]? = some (.cells #[.int .i64 x645000_2, .int .i64 x645001_2] 70 (0, 0))) ∧ Aside0 (w'.heap[gb645]? = some (.cells #[.int .i64 x646000_2, .int .i64 x646001_2] 70 (0, 0))) ∧ Aside0 (Below w.heap.size w w'))
            case atStart => exact ⟨(0), (x645000_1), (x645001_1), (x646000_1), (x646001_1), (by first | rfl | (simp; done) | (simp [*]; done)), H', ⟨Nat.le_refl _⟩, ⟨by (with_reducible repeat (first | refine blk_drewN ?_ _ | refine blk_drew ?_ | refine blk_alloc ?_ _)); exact BK644.out⟩, ⟨by (with_reducible repeat (first | refine blk_drewN ?_ _ | refine blk_drew ?_ | refine blk_alloc ?_ _)); exact BK645.out⟩, ⟨by repeat (first | (with_reducible first | exact HB.out | apply below_alloc | apply pw_below_drewN | apply below_drew1 | refine below_set ?_ GE644.out | refine below_set ?_ GE645.out) | exact HB.out)⟩⟩
            case round =>
              clear H'
              try clear c1
              try clear p2
              try clear c4
              try clear c4b0
              try clear c5
              try clear c5b0
              try clear c6
              try clear c6b0
              try clear p6
              try clear q6
              try clear hx6
              try clear hx646_0
              try clear p2
              try clear p646
              try clear q646
              obtain ⟨x20_2, x645000_2, x645001_2, x646000_2, x646001_2, rfl, HA, HK2, BK644, BK645, HB⟩ := hrel
              cases gk with
              | zero => exact absurd HA.out (by simp [impl_crossing.l1])
              | succ k2 =>
                have H := HA.out
                clear HA
                simp only [impl_crossing.l1] at H
                by_cases c7 : x20_2 < ((rd_L2 l0 x13_1).length : Int)
                · rw [if_pos c7] at H
                  have c7b0 : decide (x20_2 < ((rd_L2 l0 x13_1).length : Int)) = true := decide_eq_true c7
                  clear c7
                  by_cases c8 : 0 ≤ x20_2
                  · rw [if_pos c8] at H
                    have c8b0 : decide (0 ≤ x20_2) = true := decide_eq_true c8
                    clear c8
                    by_cases c9 : x20_2 < ((rd_L2 l0 x13_1).length : Int)
                    · rw [if_pos c9] at H
                      have c9b0 : decide (x20_2 < ((rd_L2 l0 x13_1).length : Int)) = true := decide_eq_true c9
                      clear c9
                      by_cases c10 : (rd (rd_L2 l0 x13_1) x20_2) = 0
                      · rw [if_pos c10] at H
                        have c10b0 : ((rd (rd_L2 l0 x13_1) x20_2) == 0) = true := beq_iff_eq.mpr c10
                        have c10b1 : ((rd (rd_L2 l0 x13_1) x20_2) != 0) = false := bne_eq_false_iff_eq.mpr c10
                        clear c10
                        have H' := Aside0.mk H
                        clear H
                        have p647 : 0 ≤ (x20_2 : Int) := of_decide_eq_true (by first | (with_reducible assumption) | assumption)
                        have q647 : x20_2 < ((rd_L2 l0 x13_1).length : Int) := of_decide_eq_true (by first | (with_reducible assumption) | assumption)
                        obtain ⟨ad647, e647, hx647_0⟩ := Kd.at_int HR646_0.out x20_2 p647 q647
                        cases e647
                        replace hx647_0 := (HB.out.cell (World.block_lt_of_cell? w _ hx647_0)).trans hx647_0
                        replace p647 := eq_true p647
                        replace q647 := eq_true q647
                        go_wp2
                        go_roundg k2
                        case measure => have := HK1.out; have := HK2.out; omega
                        case rel => exact ⟨(wrap64 (x20_2 + 1)), (x645000_2), (x645001_2), (x646000_2), (x646001_2), (by first | rfl | (simp; done) | (simp [*]; done)), H', ⟨by have := HK1.out; have := HK2.out; omega⟩, ⟨by (with_reducible repeat (first | refine blk_drewN ?_ _ | refine blk_drew ?_ | refine blk_alloc ?_ _)); exact BK644.out⟩, ⟨by (with_reducible repeat (first | refine blk_drewN ?_ _ | refine blk_drew ?_ | refine blk_alloc ?_ _)); exact BK645.out⟩, ⟨by repeat (first | (with_reducible first | exact HB.out | apply below_alloc | apply pw_below_drewN | apply below_drew1 | refine below_set ?_ GE644.out | refine below_set ?_ GE645.out) | exact HB.out)⟩⟩
                      · rw [if_neg c10] at H
                        have c10b0 : ((rd (rd_L2 l0 x13_1) x20_2) == 0) = false := beq_eq_false_iff_ne.mpr c10
                        have c10b1 : ((rd (rd_L2 l0 x13_1) x20_2) != 0) = true := bne_iff_ne.mpr c10
                        have H' := Aside0.mk H
                        clear H
                        have p647 : 0 ≤ (x20_2 : Int) := of_decide_eq_true (by first | (with_reducible assumption) | assumption)
                        have q647 : x20_2 < ((rd_L2 l0 x13_1).length : Int) := of_decide_eq_true (by first | (with_reducible assumption) | assumption)
                        obtain ⟨ad647, e647, hx647_0⟩ := Kd.at_int HR646_0.out x20_2 p647 q647
                        cases e647
                        replace hx647_0 := (HB.out.cell (World.block_lt_of_cell? w _ hx647_0)).trans hx647_0
                        replace p647 := eq_true p647
                        replace q647 := eq_true q647
                        go_wp2
                        go_loopg [9] k2 (fun kq v9 w' => ∃ (x9_3 : Int) (x645000_3 : Int) (x645001_3 : Int) (x646000_3 : Int) (x646001_3 : Int), v9 = .int .i64 x9_3 ∧ Aside0 (impl_crossing.l2 kq l0 x13_1 x20_2 x9_3 l0 (l0.length : Int) x13_1 (rd_L2 l0 x13_1) ((rd_L2 l0 x13_1).length : Int) x20_2 = some (r1, r2, r3, r4, r5)) ∧ Aside0 (kq ≤ k2) ∧ Aside0 (w'.heap[gb644]? = some (.cells #[.int .i64 x645000_3, .int .i64 x645001_3] 70 (0, 0))) ∧ Aside0 (w'.heap[gb645]? = some (.cells #[.int .i64 x646000_3, .int .i64 x646001_3] 70 (0, 0))) ∧ Aside0 (Below w.heap.size w w'))
                        case atStart => exact ⟨(wrap64 (x13_1 + 1)), (x645000_2), (x645001_2), (x646000_2), (x646001_2), (by first | rfl | (simp; done) | (simp [*]; done)), H', ⟨Nat.le_refl _⟩, ⟨by (with_reducible repeat (first | refine blk_drewN ?_ _ | refine blk_drew ?_ | refine blk_alloc ?_ _)); exact BK644.out⟩, ⟨by (with_reducible repeat (first | refine blk_drewN ?_ _ | refine blk_drew ?_ | refine blk_alloc ?_ _)); exact BK645.out⟩, ⟨by repeat (first | (with_reducible first | exact HB.out | apply below_alloc | apply pw_below_drewN | apply below_drew1 | refine below_set ?_ GE644.out | refine below_set ?_ GE645.out) | exact HB.out)⟩⟩
                        case round =>
                          clear H'
                          try clear c1
                          try clear p2
                          try clear c4
                          try clear c4b0
                          try clear c5
                          try clear c5b0
                          try clear c6
                          try clear c6b0
                          try clear p6
                          try clear q6
                          try clear hx6
                          try clear c7
                          try clear c7b0
                          try clear c8
                          try clear c8b0
                          try clear c9
                          try clear c9b0
                          try clear c10
                          try clear c10b0
                          try clear c10b1
                          try clear hx646_0
                          try clear hx647_0
                          try clear p2
                          try clear p6
                          try clear p646
                          try clear p647
                          try clear q6
                          try clear q646
                          try clear q647
                          obtain ⟨x9_3, x645000_3, x645001_3, x646000_3, x646001_3, rfl, HA, HK3, BK644, BK645, HB⟩ := hrel
                          cases gk with
                          | zero => exact absurd HA.out (by simp [impl_crossing.l2])
                          | succ k3 =>
                            have H := HA.out
                            clear HA
                            simp only [impl_crossing.l2] at H
                            by_cases c11 : x9_3 < (l0.length : Int)
                            · rw [if_pos c11] at H
                              have c11b0 : decide (x9_3 < (l0.length : Int)) = true := decide_eq_true c11
                              clear c11
                              have H' := Aside0.mk H
                              clear H
                              go_wp2
                              go_loopg [36] k3 (fun kq v36 w' => ∃ (x36_4 : Int) (x645000_4 : Int) (x645001_4 : Int) (x646000_4 : Int) (x646001_4 : Int), v36 = .int .i64 x36_4 ∧ Aside0 (impl_crossing.l3 kq l0 x13_1 x20_2 x9_3 l0 (l0.length : Int) x13_1 (rd_L2 l0 x13_1) ((rd_L2 l0 x13_1).length : Int) x20_2 x20_2 x36_4 = some (r1, r2, r3, r4, r5)) ∧ Aside0 (kq ≤ k3) ∧ Aside0 (w'.heap[gb644]? = some (.cells #[.int .i64 x645000_4, .int .i64 x645001_4] 70 (0, 0))) ∧ Aside0 (w'.heap[gb645]? = some (.cells #[.int .i64 x646000_4, .int .i64 x646001_4] 70 (0, 0))) ∧ Aside0 (Below w.heap.size w w'))
                              case atStart => exact ⟨(0), (x645000_3), (x645001_3), (x646000_3), (x646001_3), (by first | rfl | (simp; done) | (simp [*]; done)), H', ⟨Nat.le_refl _⟩, ⟨by (with_reducible repeat (first | refine blk_drewN ?_ _ | refine blk_drew ?_ | refine blk_alloc ?_ _)); exact BK644.out⟩, ⟨by (with_reducible repeat (first | refine blk_drewN ?_ _ | refine blk_drew ?_ | refine blk_alloc ?_ _)); exact BK645.out⟩, ⟨by repeat (first | (with_reducible first | exact HB.out | apply below_alloc | apply pw_below_drewN | apply below_drew1 | refine below_set ?_ GE644.out | refine below_set ?_ GE645.out) | exact HB.out)⟩⟩
                              case round =>
                                clear H'
                                try clear c1
                                try clear p2
                                try clear c4
                                try clear c4b0
                                try clear c5
                                try clear c5b0
                                try clear c6
                                try clear c6b0
                                try clear p6
                                try clear q6
                                try clear hx6
                                try clear c7
                                try clear c7b0
                                try clear c8
                                try clear c8b0
                                try clear c9
                                try clear c9b0
                                try clear c10
                                try clear c10b0
                                try clear c10b1
                                try clear c11
                                try clear c11b0
                                try clear hx646_0
                                try clear hx647_0
                                try clear p2
                                try clear p6
                                try clear p646
                                try clear p647
                                try clear q6
                                try clear q646
                                try clear q647
                                obtain ⟨x36_4, x645000_4, x645001_4, x646000_4, x646001_4, rfl, HA, HK4, BK644, BK645, HB⟩ := hrel
                                cases gk with
                                | zero => exact absurd HA.out (by simp [impl_crossing.l3])
                                | succ k4 =>
                                  have H := HA.out
                                  clear HA
                                  simp only [impl_crossing.l3] at H
                                  by_cases c12 : x36_4 < x20_2
                                  · rw [if_pos c12] at H
                                    have c12b0 : decide (x36_4 < x20_2) = true := decide_eq_true c12
                                    clear c12
                                    by_cases c13 : 0 ≤ x9_3
                                    · rw [if_pos c13] at H
                                      have c13b0 : decide (0 ≤ x9_3) = true := decide_eq_true c13
                                      clear c13
                                      by_cases c14 : x9_3 < (l0.length : Int)
                                      · rw [if_pos c14] at H
                                        have c14b0 : decide (x9_3 < (l0.length : Int)) = true := decide_eq_true c14
                                        clear c14
                                        by_cases c15 : 0 ≤ x36_4
                                        · rw [if_pos c15] at H
                                          have c15b0 : decide (0 ≤ x36_4) = true := decide_eq_true c15
                                          clear c15
                                          by_cases c16 : x36_4 < ((rd_L2 l0 x9_3).length : Int)
                                          · rw [if_pos c16] at H
                                            have c16b0 : decide (x36_4 < ((rd_L2 l0 x9_3).length : Int)) = true := decide_eq_true c16
                                            clear c16
                                            by_cases c17 : (rd (rd_L2 l0 x9_3) x36_4) > 0
                                            · rw [if_pos c17] at H
                                              have c17b0 : decide (0 < (rd (rd_L2 l0 x9_3) x36_4)) = true := decide_eq_true c17
                                              clear c17
                                              simp only [Option.some.injEq, Prod.mk.injEq] at H
                                              obtain ⟨rfl, rfl, rfl, rfl, rfl⟩ := H
                                              have p648 : 0 ≤ (x9_3 : Int) := of_decide_eq_true (by first | (with_reducible assumption) | assumption)
                                              have q648 : x9_3 < (l0.length : Int) := of_decide_eq_true (by first | (with_reducible assumption) | assumption)
                                              obtain ⟨ad648, A648_0, c648_0, e648, hx648_0, hl648_0, hi648_0⟩ := at_L2 HR0.out x9_3 p648 q648
                                              obtain rfl : ad646 = ad648 := (by injection e648)
                                              replace hx648_0 := (HB.out.cell (World.block_lt_of_cell? w _ hx648_0)).trans hx648_0
                                              have HR648_0 := Aside0.mk hi648_0
                                              have HC648_0 := Aside0.mk hl648_0
                                              clear hi648_0 hl648_0
                                              replace p648 := eq_true p648
                                              replace q648 := eq_true q648
                                              have p649 : 0 ≤ (x36_4 : Int) := of_decide_eq_true (by first | (with_reducible assumption) | assumption)
                                              have q649 : x36_4 < ((rd_L2 l0 x9_3).length : Int) := of_decide_eq_true (by first | (with_reducible assumption) | assumption)
                                              obtain ⟨ad649, e649, hx649_0⟩ := Kd.at_int HR648_0.out x36_4 p649 q649
                                              cases e649
                                              replace hx649_0 := (HB.out.cell (World.block_lt_of_cell? w _ hx649_0)).trans hx649_0
                                              replace p649 := eq_true p649
                                              replace q649 := eq_true q649
                                              have hnb18 := NB644_645.out
                                              have hnc18 := NB645_644.out
                                              have hcz19_0 : wr.cell? ⟨gb644, 0, none⟩ = some (.int .i64 x645000_4) := (blk_cell BK644.out 0).trans rfl
                                              have hcz19_1 : wr.cell? ⟨gb644, 1, none⟩ = some (.int .i64 x645001_4) := (blk_cell BK644.out 1).trans rfl
                                              have hfz19_0 := blk_frozen BK644.out 0
                                              have hfz19_1 := blk_frozen BK644.out 1
                                              have hcz20_0 : wr.cell? ⟨gb645, 0, none⟩ = some (.int .i64 x646000_4) := (blk_cell BK645.out 0).trans rfl
                                              have hcz20_1 : wr.cell? ⟨gb645, 1, none⟩ = some (.int .i64 x646001_4) := (blk_cell BK645.out 1).trans rfl
                                              have hfz20_0 := blk_frozen BK645.out 0
                                              have hfz20_1 := blk_frozen BK645.out 1
                                              go_wp2
                                              refine bodyPost_ret (results_list (rs := [.cell 2 70, .cell 3 70, .tmp 4]) rfl (by simp) (.cell gb644 70 #[.int .i64 x13_1, .int .i64 x20_2] (0, 0) _ rfl (by (with_reducible repeat (first | refine blk_drewN ?_ _ | refine blk_drew ?_ | refine blk_alloc ?_ _)); refine blk_far ?_ NB644_645.out _; (with_reducible repeat (first | refine blk_drewN ?_ _ | refine blk_drew ?_ | refine blk_alloc ?_ _)); refine blk_far ?_ NB644_645.out _; (with_reducible repeat (first | refine blk_drewN ?_ _ | refine blk_drew ?_ | refine blk_alloc ?_ _)); refine blk_put (cs := #[.int .i64 x13_1, .int .i64 x645001_4]) ?_ 1 _ rfl; (with_reducible repeat (first | refine blk_drewN ?_ _ | refine blk_drew ?_ | refine blk_alloc ?_ _)); refine blk_put (cs := #[.int .i64 x645000_4, .int .i64 x645001_4]) ?_ 0 _ rfl; (with_reducible repeat (first | refine blk_drewN ?_ _ | refine blk_drew ?_ | refine blk_alloc ?_ _)); exact BK644.out) Try.underlying70 rfl (by kernel_rfl) (.cell gb645 70 #[.int .i64 x9_3, .int .i64 x36_4] (0, 0) _ rfl (by (with_reducible repeat (first | refine blk_drewN ?_ _ | refine blk_drew ?_ | refine blk_alloc ?_ _)); refine blk_put (cs := #[.int .i64 x9_3, .int .i64 x646001_4]) ?_ 1 _ rfl; (with_reducible repeat (first | refine blk_drewN ?_ _ | refine blk_drew ?_ | refine blk_alloc ?_ _)); refine blk_put (cs := #[.int .i64 x646000_4, .int .i64 x646001_4]) ?_ 0 _ rfl; (with_reducible repeat (first | refine blk_drewN ?_ _ | refine blk_drew ?_ | refine blk_alloc ?_ _)); refine blk_far ?_ NB645_644.out _; (with_reducible repeat (first | refine blk_drewN ?_ _ | refine blk_drew ?_ | refine blk_alloc ?_ _)); refine blk_far ?_ NB645_644.out _; (with_reducible repeat (first | refine blk_drewN ?_ _ | refine blk_drew ?_ | refine blk_alloc ?_ _)); exact BK645.out) Try.underlying70 rfl (by kernel_rfl) (.tmp .nil)))) rfl ?_
                                              exact ⟨by first | rfl | (simp [errW_none, errW_some] <;> rfl) | (simp [*, errW_none, errW_some] <;> rfl), by repeat (first | (with_reducible first | exact HB.out | apply below_alloc | apply pw_below_drewN | apply below_drew1 | refine below_set ?_ GE644.out | refine below_set ?_ GE645.out) | exact HB.out)⟩
                                            · rw [if_neg c17] at H
                                              have c17b0 : decide (0 < (rd (rd_L2 l0 x9_3) x36_4)) = false := decide_eq_false c17
                                              clear c17
                                              have H' := Aside0.mk H
                                              clear H
                                              have p648 : 0 ≤ (x9_3 : Int) := of_decide_eq_true (by first | (with_reducible assumption) | assumption)
                                              have q648 : x9_3 < (l0.length : Int) := of_decide_eq_true (by first | (with_reducible assumption) | assumption)
                                              obtain ⟨ad648, A648_0, c648_0, e648, hx648_0, hl648_0, hi648_0⟩ := at_L2 HR0.out x9_3 p648 q648
                                              obtain rfl : ad646 = ad648 := (by injection e648)
                                              replace hx648_0 := (HB.out.cell (World.block_lt_of_cell? w _ hx648_0)).trans hx648_0
                                              have HR648_0 := Aside0.mk hi648_0
                                              have HC648_0 := Aside0.mk hl648_0
                                              clear hi648_0 hl648_0
                                              replace p648 := eq_true p648
                                              replace q648 := eq_true q648
                                              have p649 : 0 ≤ (x36_4 : Int) := of_decide_eq_true (by first | (with_reducible assumption) | assumption)
                                              have q649 : x36_4 < ((rd_L2 l0 x9_3).length : Int) := of_decide_eq_true (by first | (with_reducible assumption) | assumption)
                                              obtain ⟨ad649, e649, hx649_0⟩ := Kd.at_int HR648_0.out x36_4 p649 q649
                                              cases e649
                                              replace hx649_0 := (HB.out.cell (World.block_lt_of_cell? w _ hx649_0)).trans hx649_0
                                              replace p649 := eq_true p649
                                              replace q649 := eq_true q649
                                              go_wp2
                                              go_roundg k4
                                              case measure => have := HK1.out; have := HK2.out; have := HK3.out; have := HK4.out; omega
                                              case rel => exact ⟨(wrap64 (x36_4 + 1)), (x645000_4), (x645001_4), (x646000_4), (x646001_4), (by first | rfl | (simp; done) | (simp [*]; done)), H', ⟨by have := HK1.out; have := HK2.out; have := HK3.out; have := HK4.out; omega⟩, ⟨by (with_reducible repeat (first | refine blk_drewN ?_ _ | refine blk_drew ?_ | refine blk_alloc ?_ _)); exact BK644.out⟩, ⟨by (with_reducible repeat (first | refine blk_drewN ?_ _ | refine blk_drew ?_ | refine blk_alloc ?_ _)); exact BK645.out⟩, ⟨by repeat (first | (with_reducible first | exact HB.out | apply below_alloc | apply pw_below_drewN | apply below_drew1 | refine below_set ?_ GE644.out | refine below_set ?_ GE645.out) | exact HB.out)⟩⟩
                                          · rw [if_neg c16] at H
                                            exact absurd H (by simp)
                                        · rw [if_neg c15] at H
                                          exact absurd H (by simp)
                                      · rw [if_neg c14] at H
                                        exact absurd H (by simp)
                                    · rw [if_neg c13] at H
                                      exact absurd H (by simp)
                                  · rw [if_neg c12] at H
                                    have c12b0 : decide (x36_4 < x20_2) = false := decide_eq_false c12
                                    clear c12
                                    have H' := Aside0.mk H
                                    clear H
                                    go_wp2
                                    go_roundg k4
                                    case measure => have := HK1.out; have := HK2.out; have := HK3.out; have := HK4.out; omega
                                    case rel => exact ⟨(wrap64 (x9_3 + 1)), (x645000_4), (x645001_4), (x646000_4), (x646001_4), (by first | rfl | (simp; done) | (simp [*]; done)), H', ⟨by have := HK1.out; have := HK2.out; have := HK3.out; have := HK4.out; omega⟩, ⟨by (with_reducible repeat (first | refine blk_drewN ?_ _ | refine blk_drew ?_ | refine blk_alloc ?_ _)); exact BK644.out⟩, ⟨by (with_reducible repeat (first | refine blk_drewN ?_ _ | refine blk_drew ?_ | refine blk_alloc ?_ _)); exact BK645.out⟩, ⟨by repeat (first | (with_reducible first | exact HB.out | apply below_alloc | apply pw_below_drewN | apply below_drew1 | refine below_set ?_ GE644.out | refine below_set ?_ GE645.out) | exact HB.out)⟩⟩
                            · rw [if_neg c11] at H
                              have c11b0 : decide (x9_3 < (l0.length : Int)) = false := decide_eq_false c11
                              clear c11
                              have H' := Aside0.mk H
                              clear H
                              go_wp2
                              go_roundg k3
                              case measure => have := HK1.out; have := HK2.out; have := HK3.out; omega
                              case rel => exact ⟨(wrap64 (x20_2 + 1)), (x645000_3), (x645001_3), (x646000_3), (x646001_3), (by first | rfl | (simp; done) | (simp [*]; done)), H', ⟨by have := HK1.out; have := HK2.out; have := HK3.out; omega⟩, ⟨by (with_reducible repeat (first | refine blk_drewN ?_ _ | refine blk_drew ?_ | refine blk_alloc ?_ _)); exact BK644.out⟩, ⟨by (with_reducible repeat (first | refine blk_drewN ?_ _ | refine blk_drew ?_ | refine blk_alloc ?_ _)); exact BK645.out⟩, ⟨by repeat (first | (with_reducible first | exact HB.out | apply below_alloc | apply pw_below_drewN | apply below_drew1 | refine below_set ?_ GE644.out | refine below_set ?_ GE645.out) | exact HB.out)⟩⟩
                    · rw [if_neg c9] at H
                      exact absurd H (by simp)
                  · rw [if_neg c8] at H
                    exact absurd H (by simp)
                · rw [if_neg c7] at H
                  have c7b0 : decide (x20_2 < ((rd_L2 l0 x13_1).length : Int)) = false := decide_eq_false c7
                  clear c7
                  have H' := Aside0.mk H
                  clear H
                  go_wp2
                  go_roundg k2
                  case measure => have := HK1.out; have := HK2.out; omega
                  case rel => exact ⟨(wrap64 (x13_1 + 1)), (x645000_2), (x645001_2), (x646000_2), (x646001_2), (by first | rfl | (simp; done) | (simp [*]; done)), H', ⟨by have := HK1.out; have := HK2.out; omega⟩, ⟨by (with_reducible repeat (first | refine blk_drewN ?_ _ | refine blk_drew ?_ | refine blk_alloc ?_ _)); exact BK644.out⟩, ⟨by (with_reducible repeat (first | refine blk_drewN ?_ _ | refine blk_drew ?_ | refine blk_alloc ?_ _)); exact BK645.out⟩, ⟨by repeat (first | (with_reducible first | exact HB.out | apply below_alloc | apply pw_below_drewN | apply below_drew1 | refine below_set ?_ GE644.out | refine below_set ?_ GE645.out) | exact HB.out)⟩⟩
          · rw [if_neg c6] at H
            exact absurd H (by simp)
        · rw [if_neg c5] at H
          exact absurd H (by simp)
      · rw [if_neg c4] at H
        have c4b0 : decide (x13_1 < (l0.length : Int)) = false := decide_eq_false c4
        clear c4
        simp only [Option.some.injEq, Prod.mk.injEq] at H
        obtain ⟨rfl, rfl, rfl, rfl, rfl⟩ := H
        have hnb21 := NB644_645.out
        have hnc21 := NB645_644.out
        have hcz22_0 : wr.cell? ⟨gb644, 0, none⟩ = some (.int .i64 x645000_1) := (blk_cell BK644.out 0).trans rfl
        have hcz22_1 : wr.cell? ⟨gb644, 1, none⟩ = some (.int .i64 x645001_1) := (blk_cell BK644.out 1).trans rfl
        have hfz22_0 := blk_frozen BK644.out 0
        have hfz22_1 := blk_frozen BK644.out 1
        have hcz23_0 : wr.cell? ⟨gb645, 0, none⟩ = some (.int .i64 x646000_1) := (blk_cell BK645.out 0).trans rfl
        have hcz23_1 : wr.cell? ⟨gb645, 1, none⟩ = some (.int .i64 x646001_1) := (blk_cell BK645.out 1).trans rfl
        have hfz23_0 := blk_frozen BK645.out 0
        have hfz23_1 := blk_frozen BK645.out 1
        go_wp2
        refine bodyPost_ret (results_list (rs := [.cell 2 70, .cell 3 70, .tmp 4]) rfl (by simp) (.cell gb644 70 #[.int .i64 0, .int .i64 0] (0, 0) _ rfl (by (with_reducible repeat (first | refine blk_drewN ?_ _ | refine blk_drew ?_ | refine blk_alloc ?_ _)); refine blk_far ?_ NB644_645.out _; (with_reducible repeat (first | refine blk_drewN ?_ _ | refine blk_drew ?_ | refine blk_alloc ?_ _)); refine blk_far ?_ NB644_645.out _; (with_reducible repeat (first | refine blk_drewN ?_ _ | refine blk_drew ?_ | refine blk_alloc ?_ _)); refine blk_put (cs := #[.int .i64 0, .int .i64 x645001_1]) ?_ 1 _ rfl; (with_reducible repeat (first | refine blk_drewN ?_ _ | refine blk_drew ?_ | refine blk_alloc ?_ _)); refine blk_put (cs := #[.int .i64 x645000_1, .int .i64 x645001_1]) ?_ 0 _ rfl; (with_reducible repeat (first | refine blk_drewN ?_ _ | refine blk_drew ?_ | refine blk_alloc ?_ _)); exact BK644.out) Try.underlying70 rfl (by kernel_rfl) (.cell gb645 70 #[.int .i64 0, .int .i64 0] (0, 0) _ rfl (by (with_reducible repeat (first | refine blk_drewN ?_ _ | refine blk_drew ?_ | refine blk_alloc ?_ _)); refine blk_put (cs := #[.int .i64 0, .int .i64 x646001_1]) ?_ 1 _ rfl; (with_reducible repeat (first | refine blk_drewN ?_ _ | refine blk_drew ?_ | refine blk_alloc ?_ _)); refine blk_put (cs := #[.int .i64 x646000_1, .int .i64 x646001_1]) ?_ 0 _ rfl; (with_reducible repeat (first | refine blk_drewN ?_ _ | refine blk_drew ?_ | refine blk_alloc ?_ _)); refine blk_far ?_ NB645_644.out _; (with_reducible repeat (first | refine blk_drewN ?_ _ | refine blk_drew ?_ | refine blk_alloc ?_ _)); refine blk_far ?_ NB645_644.out _; (with_reducible repeat (first | refine blk_drewN ?_ _ | refine blk_drew ?_ | refine blk_alloc ?_ _)); exact BK645.out) Try.underlying70 rfl (by kernel_rfl) (.tmp .nil)))) rfl ?_
        exact ⟨by first | rfl | (simp [errW_none, errW_some] <;> rfl) | (simp [*, errW_none, errW_some] <;> rfl), by repeat (first | (with_reducible first | exact HB.out | apply below_alloc | apply pw_below_drewN | apply below_drew1 | refine below_set ?_ GE644.out | refine below_set ?_ GE645.out) | exact HB.out)⟩

end Go.Proofs.Ytllnieknogficaa.K
namespace Go.Proofs.Ytllnieknogficaa.K
open Go.RowKit Go.Proofs.YtllnieknogficaaW.PrintWords Go.Proofs.YtllnieknogficaaW.PrintLast Go.Proofs.YtllnieknogficaaW.PrintMore
attribute [local go_sem] max2_int min2_int max_two min_two max_three min_three max_four min_four   -- for this text's walks alone
set_option linter.unusedVariables false
set_option linter.unusedSimpArgs false

/-! ### impl_CrossingOf: function 51 -/
def impl_CrossingOf.f (k : Nat) (l0 : List (List Int)) : Option ((List (S70)) × Bool) := (impl_isPlan.f l0).bind fun t650 => (if t650 = true then ((impl_crossing.f k l0).bind fun bt651 => (if bt651.2.2.2.2 = true then (some ((([(⟨bt651.1, bt651.2.1⟩ : S70), (⟨bt651.2.2.1, bt651.2.2.2.1⟩ : S70)] : List (S70))), true)) else (some (([] : List (S70)), false)))) else (some (([] : List (S70)), false)))
theorem impl_CrossingOf.mono : ∀ a0 k, LeO (impl_CrossingOf.f k a0) (impl_CrossingOf.f (k + 1) a0) := by
  intro a0 k
  unfold impl_CrossingOf.f
  repeat' first
      | (with_reducible exact impl_crossing.mono _ _)
      | (with_reducible exact LeO.refl _)
      | (with_reducible exact LeO.none _)
      | (with_reducible refine LeO.ite ?_ ?_)
      | (with_reducible refine LeO.bind ?_ (fun _ => ?_))
      | exact impl_crossing.mono _ _
      | exact LeO.none _
      | refine LeO.ite ?_ ?_
      | refine LeO.bind ?_ (fun _ => ?_)
set_option maxHeartbeats 8000000 in
set_option maxRecDepth 100000 in
theorem impl_CrossingOf.calls (k : Nat) (A0 : Option Addr) (c0 : Nat) (l0 : List (List Int)) (r1 : List (S70)) (r2 : Bool) (w : World) (hr0 : Kd.C (Kd.slice 3 (Kd.int .i64)) w A0 l0.length l0) (hc0 : l0.length ≤ c0) (h : impl_CrossingOf.f k l0 = some (r1, r2)) :
    Calls Try.prog 51 #[.slice A0 l0.length c0] w fun e w' => ∃ v0_ : Value, e = .returned (.tuple #[v0_, .bool r2]) ∧ Kd.R k70 70 w' w.heap.size (fun _ => True) v0_ r1 ∧ Below w.heap.size w w' := by
  have hu70 := Try.underlying70
  have HR0 := Aside0.mk hr0
  have HC0 := Aside0.mk hc0
  clear hr0 hc0
  have HB := Aside0.mk (Below.refl w.heap.size w)
  have H : ((impl_isPlan.f l0).bind fun t650 => (if t650 = true then ((impl_crossing.f k l0).bind fun bt651 => (if bt651.2.2.2.2 = true then (some ((([(⟨bt651.1, bt651.2.1⟩ : S70), (⟨bt651.2.2.1, bt651.2.2.2.1⟩ : S70)] : List (S70))), true)) else (some (([] : List (S70)), false)))) else (some (([] : List (S70)), false)))) = some (r1, r2) := h
  clear h
  replace H := Option.bind_eq_some_iff.mp H
  obtain ⟨t650, A20, H⟩ := H
  replace H : (if t650 = true then ((impl_crossing.f k l0).bind fun bt651 => (if bt651.2.2.2.2 = true then (some ((([(⟨bt651.1, bt651.2.1⟩ : S70), (⟨bt651.2.2.1, bt651.2.2.2.1⟩ : S70)] : List (S70))), true)) else (some (([] : List (S70)), false)))) else (some (([] : List (S70)), false))) = some (r1, r2) := H
  have A2 := Aside0.mk A20
  clear A20
  by_cases c3 : t650 = true
  · subst c3
    have H1 : ((impl_crossing.f k l0).bind fun bt651 => (if bt651.2.2.2.2 = true then (some ((([(⟨bt651.1, bt651.2.1⟩ : S70), (⟨bt651.2.2.1, bt651.2.2.2.1⟩ : S70)] : List (S70))), true)) else (some (([] : List (S70)), false)))) = some (r1, r2) := by rw [if_pos rfl] at H; exact H
    clear H
    have H := H1
    clear H1
    replace H := Option.bind_eq_some_iff.mp H
    obtain ⟨⟨t651, t652, t653, t654, t655⟩, A40, H⟩ := H
    replace H : (if t655 = true then (some ((([(⟨t651, t652⟩ : S70), (⟨t653, t654⟩ : S70)] : List (S70))), true)) else (some (([] : List (S70)), false))) = some (r1, r2) := H
    have A4 := Aside0.mk A40
    clear A40
    by_cases c5 : t655 = true
    · subst c5
      have H1 : (some ((([(⟨t651, t652⟩ : S70), (⟨t653, t654⟩ : S70)] : List (S70))), true)) = some (r1, r2) := by rw [if_pos rfl] at H; exact H
      clear H
      have H := H1
      clear H1
      obtain ⟨y658, hy658⟩ : ∃ y_ : List (S70), y_ = (([(⟨t651, t652⟩ : S70), (⟨t653, t654⟩ : S70)] : List (S70))) := ⟨_, rfl⟩
      replace H : (some (y658, true)) = some (r1, r2) := by first | (rw [hy658]; with_reducible exact H) | (have H2_ := (Option.bind_some _ _).symm.trans H; rw [hy658]; with_reducible exact H2_) | (have H2_ := (Option.bind_some _ _).symm.trans H; with_reducible exact H2_) | with_reducible exact H | (rw [hy658]; exact H) | exact H
      have Ny658 := Aside0.mk hy658
      clear hy658
      simp only [Option.some.injEq, Prod.mk.injEq] at H
      obtain ⟨rfl, rfl⟩ := H
      go_enter Try.func51, Try.ntmps51
      go_wp2_with (first | ((with_reducible refine gate_callee (f := 118) rfl ?_); refine goesL_ (some 8) rfl rfl Try.func118 (by kernel_rfl) rfl #[.slice A0 l0.length c0] rfl (by (try simp only [List.map_toArray, List.map_cons, List.map_nil]); first | done | rfl | (simp only [List.length_drop, List.length_take]; rfl)) ?_; (with_reducible refine (impl_isPlan.calls _ _ l0 true _ ?side1 ?side2 A2.out).mono ?_); (case side1 => repeat (first | exact HR0.out | (with_reducible refine Kd.C_alloc ?_ _) | (with_reducible refine Kd.C_drewN ?_ _) | (with_reducible refine Kd.C_drew ?_))); (case side2 => exact HC0.out); rintro e w6 ⟨rfl, hb⟩; refine ⟨_, rfl, ?_⟩; have n0_ := Aside0.mk (below_step (by repeat (first | (with_reducible first | exact HB.out | apply below_alloc | apply pw_below_drewN | apply below_drew1) | exact HB.out)) hb); clear HB; have HB := n0_; clear n0_; (try clear hb); (try clear hb2); (try clear hk); (try clear hi)) | ((with_reducible refine gate_callee (f := 141) rfl ?_); refine goesL_ (some 12) rfl rfl Try.func141 (by kernel_rfl) rfl #[.slice A0 l0.length c0] rfl (by (try simp only [List.map_toArray, List.map_cons, List.map_nil]); first | done | rfl | (simp only [List.length_drop, List.length_take]; rfl)) ?_; (with_reducible refine (impl_crossing.calls k _ _ l0 t651 t652 t653 t654 true _ ?side1 ?side2 A4.out).mono ?_); (case side1 => repeat (first | exact (Kd.C_below HR0.out HB.out) | (with_reducible refine Kd.C_alloc ?_ _) | (with_reducible refine Kd.C_drewN ?_ _) | (with_reducible refine Kd.C_drew ?_))); (case side2 => exact HC0.out); rintro e w7 ⟨rfl, hb⟩; refine ⟨_, rfl, ?_⟩; have n0_ := Aside0.mk (below_step (by repeat (first | (with_reducible first | exact HB.out | apply below_alloc | apply pw_below_drewN | apply below_drew1) | exact HB.out)) hb); clear HB; have HB := n0_; clear n0_; (try clear hb); (try clear hb2); (try clear hk); (try clear hi)) | ((with_reducible refine gate_dst (N := 4) rfl ?_); refine box_event ?hg (N := 4) ?hd (cs := #[.int .i64 0, .int .i64 0]) (t := 70) ?hr ?_; (case hd => rfl); (case hg => rfl); (case hr => first | (go_simp; done) | (go_simp; rfl)); intro gb656 hg w8 hbox hb; have n0_ := Aside0.mk (below_step (by repeat (first | (with_reducible first | exact HB.out | apply below_alloc | apply pw_below_drewN | apply below_drew1) | exact HB.out)) hb); have n1_ := Aside0.mk (hbox); have n2_ := Aside0.mk ((by rw [hg]; exact (below_size (by repeat (first | (with_reducible first | exact HB.out | apply below_alloc | apply pw_below_drewN | apply below_drew1) | exact HB.out))) : w.heap.size ≤ gb656)); have n3_ := Aside0.mk ((by rw [hg]; exact (below_size (by repeat (first | (with_reducible first | exact HB.out | apply below_alloc | apply pw_below_drewN | apply below_drew1) | exact HB.out))) : w.heap.size ≤ gb656)); clear HB; have HB := n0_; have BK656 := n1_; have GW656 := n2_; have GE656 := n3_; clear n0_ n1_ n2_ n3_; clear hb hbox hg) | ((with_reducible refine gate_dst (N := 5) rfl ?_); refine box_event ?hg (N := 5) ?hd (cs := #[.int .i64 0, .int .i64 0]) (t := 70) ?hr ?_; (case hd => rfl); (case hg => rfl); (case hr => first | (go_simp; done) | (go_simp; rfl)); intro gb657 hg w9 hbox hb; have n0_ := Aside0.mk (blk_below (g := gb656) (o := .cells #[.int .i64 0, .int .i64 0] 70 (0, 0)) (by (with_reducible repeat (first | refine blk_drewN ?_ _ | refine blk_drew ?_ | refine blk_alloc ?_ _)); exact BK656.out) hb); have n1_ := Aside0.mk (below_step (by repeat (first | (with_reducible first | exact HB.out | apply below_alloc | apply pw_below_drewN | apply below_drew1 | refine below_set ?_ GE656.out) | exact HB.out)) hb); have n2_ := Aside0.mk (hbox); have n3_ := Aside0.mk ((by rw [hg]; exact (below_size (by repeat (first | (with_reducible first | exact HB.out | apply below_alloc | apply pw_below_drewN | apply below_drew1 | refine below_set ?_ GE656.out) | exact HB.out))) : w.heap.size ≤ gb657)); have n4_ := Aside0.mk ((by rw [hg]; exact (below_size (by repeat (first | (with_reducible first | exact HB.out | apply below_alloc | apply pw_below_drewN | apply below_drew1 | refine below_set ?_ GE656.out) | exact HB.out))) : w.heap.size ≤ gb657)); have n5_ := Aside0.mk ((by rw [hg]; exact Nat.ne_of_lt (blk_lt (g := gb656) (o := .cells #[.int .i64 0, .int .i64 0] 70 (0, 0)) (by (with_reducible repeat (first | refine blk_drewN ?_ _ | refine blk_drew ?_ | refine blk_alloc ?_ _)); exact BK656.out)) : gb656 ≠ gb657)); have n6_ := Aside0.mk ((by rw [hg]; exact Nat.ne_of_gt (blk_lt (g := gb656) (o := .cells #[.int .i64 0, .int .i64 0] 70 (0, 0)) (by (with_reducible repeat (first | refine blk_drewN ?_ _ | refine blk_drew ?_ | refine blk_alloc ?_ _)); exact BK656.out)) : gb657 ≠ gb656)); clear BK656; clear HB; have BK656 := n0_; have HB := n1_; have BK657 := n2_; have GW657 := n3_; have GE657 := n4_; have NB656_657 := n5_; have NB657_656 := n6_; clear n0_ n1_ n2_ n3_ n4_ n5_ n6_; clear hb hbox hg; have hnb10 := NB656_657.out; have hnc10 := NB657_656.out; have hcz11_0 : w9.cell? ⟨gb656, 0, none⟩ = some (.int .i64 0) := (blk_cell BK656.out 0).trans rfl; have hcz11_1 : w9.cell? ⟨gb656, 1, none⟩ = some (.int .i64 0) := (blk_cell BK656.out 1).trans rfl; have hfz11_0 := blk_frozen BK656.out 0; have hfz11_1 := blk_frozen BK656.out 1; have hcz12_0 : w9.cell? ⟨gb657, 0, none⟩ = some (.int .i64 0) := (blk_cell BK657.out 0).trans rfl; have hcz12_1 : w9.cell? ⟨gb657, 1, none⟩ = some (.int .i64 0) := (blk_cell BK657.out 1).trans rfl; have hfz12_0 := blk_frozen BK657.out 0; have hfz12_1 := blk_frozen BK657.out 1) | ((with_reducible refine gate_dst (N := 20) rfl ?_); refine Kd.R_lit k70 _ 70 ?hg (N := 20) ?hd (xs := ([(⟨t651, t652⟩ : S70), (⟨t653, t654⟩ : S70)] : List (S70))) (inner := [.int .i64 t651, .int .i64 t652, .int .i64 t653, .int .i64 t654]) (ok := fun _ => True) (okp := fun _ => True) ?hr ?hp (fun _ hk => hk) trivial (Below.refl _ _) (Nat.le_refl _) (by simp) ?_; (case hd => rfl); (case hg => rfl); (case hr => first | (go_simp; done) | (go_simp; rfl)); (case hp => exact (Reps.c2 (show Kd.M k70 _ _ _ (⟨t651, t652⟩ : S70) [.int .i64 t651, .int .i64 t652] from (k70_mkM _ _ _ (⟨t651, t652⟩ : S70) )) (Reps.c2 (show Kd.M k70 _ _ _ (⟨t653, t654⟩ : S70) [.int .i64 t653, .int .i64 t654] from (k70_mkM _ _ _ (⟨t653, t654⟩ : S70) )) (Reps.none _ _)))); intro v659 w13 ho14 hb hg_ hnew_; clear hg_ hnew_; (first | rw [← Ny658.out] at ho14 | (simp only [Int.reduceToNat] at ho14; rw [← Ny658.out] at ho14)); have n0_ := Aside0.mk (Kd.R_lower (Kd.R_newB (Kd.R_newB ho14 (g := gb656) (o := .cells #[.int .i64 t651, .int .i64 t652] 70 (0, 0)) (by (with_reducible repeat (first | refine blk_drewN ?_ _ | refine blk_drew ?_ | refine blk_alloc ?_ _)); refine blk_far ?_ NB656_657.out _; (with_reducible repeat (first | refine blk_drewN ?_ _ | refine blk_drew ?_ | refine blk_alloc ?_ _)); refine blk_far ?_ NB656_657.out _; (with_reducible repeat (first | refine blk_drewN ?_ _ | refine blk_drew ?_ | refine blk_alloc ?_ _)); refine blk_put (cs := #[.int .i64 t651, .int .i64 0]) ?_ 1 _ rfl; (with_reducible repeat (first | refine blk_drewN ?_ _ | refine blk_drew ?_ | refine blk_alloc ?_ _)); refine blk_put (cs := #[.int .i64 0, .int .i64 0]) ?_ 0 _ rfl; (with_reducible repeat (first | refine blk_drewN ?_ _ | refine blk_drew ?_ | refine blk_alloc ?_ _)); exact BK656.out)) (g := gb657) (o := .cells #[.int .i64 t653, .int .i64 t654] 70 (0, 0)) (by (with_reducible repeat (first | refine blk_drewN ?_ _ | refine blk_drew ?_ | refine blk_alloc ?_ _)); refine blk_put (cs := #[.int .i64 t653, .int .i64 0]) ?_ 1 _ rfl; (with_reducible repeat (first | refine blk_drewN ?_ _ | refine blk_drew ?_ | refine blk_alloc ?_ _)); refine blk_put (cs := #[.int .i64 0, .int .i64 0]) ?_ 0 _ rfl; (with_reducible repeat (first | refine blk_drewN ?_ _ | refine blk_drew ?_ | refine blk_alloc ?_ _)); refine blk_far ?_ NB657_656.out _; (with_reducible repeat (first | refine blk_drewN ?_ _ | refine blk_drew ?_ | refine blk_alloc ?_ _)); refine blk_far ?_ NB657_656.out _; (with_reducible repeat (first | refine blk_drewN ?_ _ | refine blk_drew ?_ | refine blk_alloc ?_ _)); exact BK657.out)) (below_size (by repeat (first | (with_reducible first | exact HB.out | apply below_alloc | apply pw_below_drewN | apply below_drew1 | refine below_set ?_ GE656.out | refine below_set ?_ GE657.out) | exact HB.out)))); have n1_ := Aside0.mk (blk_below (g := gb656) (o := .cells #[.int .i64 t651, .int .i64 t652] 70 (0, 0)) (by (with_reducible repeat (first | refine blk_drewN ?_ _ | refine blk_drew ?_ | refine blk_alloc ?_ _)); refine blk_far ?_ NB656_657.out _; (with_reducible repeat (first | refine blk_drewN ?_ _ | refine blk_drew ?_ | refine blk_alloc ?_ _)); refine blk_far ?_ NB656_657.out _; (with_reducible repeat (first | refine blk_drewN ?_ _ | refine blk_drew ?_ | refine blk_alloc ?_ _)); refine blk_put (cs := #[.int .i64 t651, .int .i64 0]) ?_ 1 _ rfl; (with_reducible repeat (first | refine blk_drewN ?_ _ | refine blk_drew ?_ | refine blk_alloc ?_ _)); refine blk_put (cs := #[.int .i64 0, .int .i64 0]) ?_ 0 _ rfl; (with_reducible repeat (first | refine blk_drewN ?_ _ | refine blk_drew ?_ | refine blk_alloc ?_ _)); exact BK656.out) hb); have n2_ := Aside0.mk (blk_below (g := gb657) (o := .cells #[.int .i64 t653, .int .i64 t654] 70 (0, 0)) (by (with_reducible repeat (first | refine blk_drewN ?_ _ | refine blk_drew ?_ | refine blk_alloc ?_ _)); refine blk_put (cs := #[.int .i64 t653, .int .i64 0]) ?_ 1 _ rfl; (with_reducible repeat (first | refine blk_drewN ?_ _ | refine blk_drew ?_ | refine blk_alloc ?_ _)); refine blk_put (cs := #[.int .i64 0, .int .i64 0]) ?_ 0 _ rfl; (with_reducible repeat (first | refine blk_drewN ?_ _ | refine blk_drew ?_ | refine blk_alloc ?_ _)); refine blk_far ?_ NB657_656.out _; (with_reducible repeat (first | refine blk_drewN ?_ _ | refine blk_drew ?_ | refine blk_alloc ?_ _)); refine blk_far ?_ NB657_656.out _; (with_reducible repeat (first | refine blk_drewN ?_ _ | refine blk_drew ?_ | refine blk_alloc ?_ _)); exact BK657.out) hb); have n3_ := Aside0.mk (below_step (by repeat (first | (with_reducible first | exact HB.out | apply below_alloc | apply pw_below_drewN | apply below_drew1 | refine below_set ?_ GE656.out | refine below_set ?_ GE657.out) | exact HB.out)) hb); clear BK656; clear BK657; clear HB; have HO660 := n0_; have BK656 := n1_; have BK657 := n2_; have HB := n3_; clear n0_ n1_ n2_ n3_; clear hb ho14))
      go_ret2
      exact ⟨_, by first | rfl | (simp [errW_none, errW_some] <;> rfl) | (simp [*, errW_none, errW_some] <;> rfl), by (with_reducible repeat (first | apply Kd.R_alloc | apply Kd.R_drewN | apply Kd.R_drew)); exact Kd.R_mono HO660.out (fun _ hk => trivial), by repeat (first | (with_reducible first | exact HB.out | apply below_alloc | apply pw_below_drewN | apply below_drew1 | refine below_set ?_ GE656.out | refine below_set ?_ GE657.out) | exact HB.out)⟩
    · replace c5 := Bool.eq_false_iff.mpr c5
      subst c5
      have H1 : (some (([] : List (S70)), false)) = some (r1, r2) := by rw [if_neg (show ¬ (false = true) by decide)] at H; exact H
      clear H
      have H := H1
      clear H1
      simp only [Option.some.injEq, Prod.mk.injEq] at H
      obtain ⟨rfl, rfl⟩ := H
      go_enter Try.func51, Try.ntmps51
      go_wp2_with (first | ((with_reducible refine gate_callee (f := 118) rfl ?_); refine goesL_ (some 8) rfl rfl Try.func118 (by kernel_rfl) rfl #[.slice A0 l0.length c0] rfl (by (try simp only [List.map_toArray, List.map_cons, List.map_nil]); first | done | rfl | (simp only [List.length_drop, List.length_take]; rfl)) ?_; (with_reducible refine (impl_isPlan.calls _ _ l0 true _ ?side1 ?side2 A2.out).mono ?_); (case side1 => repeat (first | exact HR0.out | (with_reducible refine Kd.C_alloc ?_ _) | (with_reducible refine Kd.C_drewN ?_ _) | (with_reducible refine Kd.C_drew ?_))); (case side2 => exact HC0.out); rintro e w15 ⟨rfl, hb⟩; refine ⟨_, rfl, ?_⟩; have n0_ := Aside0.mk (below_step (by repeat (first | (with_reducible first | exact HB.out | apply below_alloc | apply pw_below_drewN | apply below_drew1) | exact HB.out)) hb); clear HB; have HB := n0_; clear n0_; (try clear hb); (try clear hb2); (try clear hk); (try clear hi)) | ((with_reducible refine gate_callee (f := 141) rfl ?_); refine goesL_ (some 12) rfl rfl Try.func141 (by kernel_rfl) rfl #[.slice A0 l0.length c0] rfl (by (try simp only [List.map_toArray, List.map_cons, List.map_nil]); first | done | rfl | (simp only [List.length_drop, List.length_take]; rfl)) ?_; (with_reducible refine (impl_crossing.calls k _ _ l0 t651 t652 t653 t654 false _ ?side1 ?side2 A4.out).mono ?_); (case side1 => repeat (first | exact (Kd.C_below HR0.out HB.out) | (with_reducible refine Kd.C_alloc ?_ _) | (with_reducible refine Kd.C_drewN ?_ _) | (with_reducible refine Kd.C_drew ?_))); (case side2 => exact HC0.out); rintro e w16 ⟨rfl, hb⟩; refine ⟨_, rfl, ?_⟩; have n0_ := Aside0.mk (below_step (by repeat (first | (with_reducible first | exact HB.out | apply below_alloc | apply pw_below_drewN | apply below_drew1) | exact HB.out)) hb); clear HB; have HB := n0_; clear n0_; (try clear hb); (try clear hb2); (try clear hk); (try clear hi)) | ((with_reducible refine gate_dst (N := 4) rfl ?_); refine box_event ?hg (N := 4) ?hd (cs := #[.int .i64 0, .int .i64 0]) (t := 70) ?hr ?_; (case hd => rfl); (case hg => rfl); (case hr => first | (go_simp; done) | (go_simp; rfl)); intro gb656 hg w17 hbox hb; have n0_ := Aside0.mk (below_step (by repeat (first | (with_reducible first | exact HB.out | apply below_alloc | apply pw_below_drewN | apply below_drew1) | exact HB.out)) hb); have n1_ := Aside0.mk (hbox); have n2_ := Aside0.mk ((by rw [hg]; exact (below_size (by repeat (first | (with_reducible first | exact HB.out | apply below_alloc | apply pw_below_drewN | apply below_drew1) | exact HB.out))) : w.heap.size ≤ gb656)); have n3_ := Aside0.mk ((by rw [hg]; exact (below_size (by repeat (first | (with_reducible first | exact HB.out | apply below_alloc | apply pw_below_drewN | apply below_drew1) | exact HB.out))) : w.heap.size ≤ gb656)); clear HB; have HB := n0_; have BK656 := n1_; have GW656 := n2_; have GE656 := n3_; clear n0_ n1_ n2_ n3_; clear hb hbox hg) | ((with_reducible refine gate_dst (N := 5) rfl ?_); refine box_event ?hg (N := 5) ?hd (cs := #[.int .i64 0, .int .i64 0]) (t := 70) ?hr ?_; (case hd => rfl); (case hg => rfl); (case hr => first | (go_simp; done) | (go_simp; rfl)); intro gb657 hg w18 hbox hb; have n0_ := Aside0.mk (blk_below (g := gb656) (o := .cells #[.int .i64 0, .int .i64 0] 70 (0, 0)) (by (with_reducible repeat (first | refine blk_drewN ?_ _ | refine blk_drew ?_ | refine blk_alloc ?_ _)); exact BK656.out) hb); have n1_ := Aside0.mk (below_step (by repeat (first | (with_reducible first | exact HB.out | apply below_alloc | apply pw_below_drewN | apply below_drew1 | refine below_set ?_ GE656.out) | exact HB.out)) hb); have n2_ := Aside0.mk (hbox); have n3_ := Aside0.mk ((by rw [hg]; exact (below_size (by repeat (first | (with_reducible first | exact HB.out | apply below_alloc | apply pw_below_drewN | apply below_drew1 | refine below_set ?_ GE656.out) | exact HB.out))) : w.heap.size ≤ gb657)); have n4_ := Aside0.mk ((by rw [hg]; exact (below_size (by repeat (first | (with_reducible first | exact HB.out | apply below_alloc | apply pw_below_drewN | apply below_drew1 | refine below_set ?_ GE656.out) | exact HB.out))) : w.heap.size ≤ gb657)); have n5_ := Aside0.mk ((by rw [hg]; exact Nat.ne_of_lt (blk_lt (g := gb656) (o := .cells #[.int .i64 0, .int .i64 0] 70 (0, 0)) (by (with_reducible repeat (first | refine blk_drewN ?_ _ | refine blk_drew ?_ | refine blk_alloc ?_ _)); exact BK656.out)) : gb656 ≠ gb657)); have n6_ := Aside0.mk ((by rw [hg]; exact Nat.ne_of_gt (blk_lt (g := gb656) (o := .cells #[.int .i64 0, .int .i64 0] 70 (0, 0)) (by (with_reducible repeat (first | refine blk_drewN ?_ _ | refine blk_drew ?_ | refine blk_alloc ?_ _)); exact BK656.out)) : gb657 ≠ gb656)); clear BK656; clear HB; have BK656 := n0_; have HB := n1_; have BK657 := n2_; have GW657 := n3_; have GE657 := n4_; have NB656_657 := n5_; have NB657_656 := n6_; clear n0_ n1_ n2_ n3_ n4_ n5_ n6_; clear hb hbox hg; have hnb19 := NB656_657.out; have hnc19 := NB657_656.out; have hcz20_0 : w18.cell? ⟨gb656, 0, none⟩ = some (.int .i64 0) := (blk_cell BK656.out 0).trans rfl; have hcz20_1 : w18.cell? ⟨gb656, 1, none⟩ = some (.int .i64 0) := (blk_cell BK656.out 1).trans rfl; have hfz20_0 := blk_frozen BK656.out 0; have hfz20_1 := blk_frozen BK656.out 1; have hcz21_0 : w18.cell? ⟨gb657, 0, none⟩ = some (.int .i64 0) := (blk_cell BK657.out 0).trans rfl; have hcz21_1 : w18.cell? ⟨gb657, 1, none⟩ = some (.int .i64 0) := (blk_cell BK657.out 1).trans rfl; have hfz21_0 := blk_frozen BK657.out 0; have hfz21_1 := blk_frozen BK657.out 1))
      go_ret2
      exact ⟨_, by first | rfl | (simp [errW_none, errW_some] <;> rfl) | (simp [*, errW_none, errW_some] <;> rfl), by first | exact Kd.R_nil _ _ _ _ _ | exact Kd.N_nil _ _ _ _ _ | exact Kd.V_nil _ _ _ _ _ | exact Kd.Q_nil _ _ _ _ _ | exact Kd.S_nil _ _ _ _ _, by repeat (first | (with_reducible first | exact HB.out | apply below_alloc | apply pw_below_drewN | apply below_drew1 | refine below_set ?_ GE656.out | refine below_set ?_ GE657.out) | exact HB.out)⟩
  · replace c3 := Bool.eq_false_iff.mpr c3
    subst c3
    have H1 : (some (([] : List (S70)), false)) = some (r1, r2) := by rw [if_neg (show ¬ (false = true) by decide)] at H; exact H
    clear H
    have H := H1
    clear H1
    simp only [Option.some.injEq, Prod.mk.injEq] at H
    obtain ⟨rfl, rfl⟩ := H
    go_enter Try.func51, Try.ntmps51
    go_wp2_with (first | ((with_reducible refine gate_callee (f := 118) rfl ?_); refine goesL_ (some 8) rfl rfl Try.func118 (by kernel_rfl) rfl #[.slice A0 l0.length c0] rfl (by (try simp only [List.map_toArray, List.map_cons, List.map_nil]); first | done | rfl | (simp only [List.length_drop, List.length_take]; rfl)) ?_; (with_reducible refine (impl_isPlan.calls _ _ l0 false _ ?side1 ?side2 A2.out).mono ?_); (case side1 => repeat (first | exact HR0.out | (with_reducible refine Kd.C_alloc ?_ _) | (with_reducible refine Kd.C_drewN ?_ _) | (with_reducible refine Kd.C_drew ?_))); (case side2 => exact HC0.out); rintro e w22 ⟨rfl, hb⟩; refine ⟨_, rfl, ?_⟩; have n0_ := Aside0.mk (below_step (by repeat (first | (with_reducible first | exact HB.out | apply below_alloc | apply pw_below_drewN | apply below_drew1) | exact HB.out)) hb); clear HB; have HB := n0_; clear n0_; (try clear hb); (try clear hb2); (try clear hk); (try clear hi)))
    go_ret2
    exact ⟨_, by first | rfl | (simp [errW_none, errW_some] <;> rfl) | (simp [*, errW_none, errW_some] <;> rfl), by first | exact Kd.R_nil _ _ _ _ _ | exact Kd.N_nil _ _ _ _ _ | exact Kd.V_nil _ _ _ _ _ | exact Kd.Q_nil _ _ _ _ _ | exact Kd.S_nil _ _ _ _ _, by repeat (first | (with_reducible first | exact HB.out | apply below_alloc | apply pw_below_drewN | apply below_drew1) | exact HB.out)⟩

end Go.Proofs.Ytllnieknogficaa.K
namespace Go.Proofs.Ytllnieknogficaa.K
open Go.RowKit Go.Proofs.YtllnieknogficaaW.PrintWords Go.Proofs.YtllnieknogficaaW.PrintLast Go.Proofs.YtllnieknogficaaW.PrintMore
attribute [local go_sem] max2_int min2_int max_two min_two max_three min_three max_four min_four   -- for this text's walks alone
set_option linter.unusedVariables false
set_option linter.unusedSimpArgs false

/-! ### spec_plCells: function 210 -/
mutual
def spec_plCells.l0 : Nat → List (S70) → List (List Int) → Int → Int → Option ((List (S70)))
  | 0, _, _, _, _ => none
  | k + 1, x3, x8, x9, x10 => if x10 < x9 then (if 0 ≤ x10 then (if x10 < (x8.length : Int) then (spec_plCells.l1 k x3 x10 x8 x9 x10 (rd_L2 x8 x10) ((rd_L2 x8 x10).length : Int) 0) else (none)) else (none)) else (some x3)
def spec_plCells.l1 : Nat → List (S70) → Int → List (List Int) → Int → Int → List Int → Int → Int → Option ((List (S70)))
  | 0, _, _, _, _, _, _, _, _ => none
  | k + 1, x3, x4, x8, x9, x10, x15, x16, x17 => if x17 < x16 then (if 0 ≤ x17 then (if x17 < (x15.length : Int) then (if (rd x15 x17) > 0 then (if x3.length < 8796093022208 then (spec_plCells.l1 k (x3 ++ [(⟨x4, x17⟩ : S70)]) x4 x8 x9 x10 x15 x16 (wrap64 (x17 + 1))) else (none)) else (spec_plCells.l1 k x3 x4 x8 x9 x10 x15 x16 (wrap64 (x17 + 1)))) else (none)) else (none)) else (spec_plCells.l0 k x3 x8 x9 (wrap64 (x10 + 1)))
end
def spec_plCells.f (k : Nat) (l0 : List (List Int)) : Option ((List (S70))) := spec_plCells.l0 k ([] : List (S70)) l0 (l0.length : Int) 0
theorem spec_plCells.mono_l : ∀ k, (∀ y0 y1 y2 y3, LeO (spec_plCells.l0 k y0 y1 y2 y3) (spec_plCells.l0 (k + 1) y0 y1 y2 y3)) ∧ (∀ y0 y1 y2 y3 y4 y5 y6 y7, LeO (spec_plCells.l1 k y0 y1 y2 y3 y4 y5 y6 y7) (spec_plCells.l1 (k + 1) y0 y1 y2 y3 y4 y5 y6 y7))
  | 0 => ⟨fun _ _ _ _ r h => by simp [spec_plCells.l0] at h, fun _ _ _ _ _ _ _ _ r h => by simp [spec_plCells.l1] at h⟩
  | k + 1 => by
    obtain ⟨ih0, ih1⟩ := spec_plCells.mono_l k
    refine ⟨?_, ?_⟩
    · intro y0 y1 y2 y3
      unfold spec_plCells.l0
      repeat' first
      | (with_reducible exact ih0 _ _ _ _)
      | (with_reducible exact ih1 _ _ _ _ _ _ _ _)
      | (with_reducible exact LeO.refl _)
      | (with_reducible exact LeO.none _)
      | (with_reducible refine LeO.ite ?_ ?_)
      | (with_reducible refine LeO.bind ?_ (fun _ => ?_))
      | exact ih0 _ _ _ _
      | exact ih1 _ _ _ _ _ _ _ _
      | exact LeO.none _
      | refine LeO.ite ?_ ?_
      | refine LeO.bind ?_ (fun _ => ?_)
    · intro y0 y1 y2 y3 y4 y5 y6 y7
      unfold spec_plCells.l1
      repeat' first
      | (with_reducible exact ih0 _ _ _ _)
      | (with_reducible exact ih1 _ _ _ _ _ _ _ _)
      | (with_reducible exact LeO.refl _)
      | (with_reducible exact LeO.none _)
      | (with_reducible refine LeO.ite ?_ ?_)
      | (with_reducible refine LeO.bind ?_ (fun _ => ?_))
      | exact ih0 _ _ _ _
      | exact ih1 _ _ _ _ _ _ _ _
      | exact LeO.none _
      | refine LeO.ite ?_ ?_
      | refine LeO.bind ?_ (fun _ => ?_)
theorem spec_plCells.mono : ∀ a0 k, LeO (spec_plCells.f k a0) (spec_plCells.f (k + 1) a0) := by
  intro a0 k
  obtain ⟨ih0, ih1⟩ := spec_plCells.mono_l k
  unfold spec_plCells.f
  repeat' first
      | (with_reducible exact ih0 _ _ _ _)
      | (with_reducible exact ih1 _ _ _ _ _ _ _ _)
      | (with_reducible exact LeO.refl _)
      | (with_reducible exact LeO.none _)
      | (with_reducible refine LeO.ite ?_ ?_)
      | (with_reducible refine LeO.bind ?_ (fun _ => ?_))
      | exact ih0 _ _ _ _
      | exact ih1 _ _ _ _ _ _ _ _
      | exact LeO.none _
      | refine LeO.ite ?_ ?_
      | refine LeO.bind ?_ (fun _ => ?_)
set_option maxHeartbeats 8000000 in
set_option maxRecDepth 100000 in
theorem spec_plCells.calls (k : Nat) (A0 : Option Addr) (c0 : Nat) (l0 : List (List Int)) (r : List (S70)) (w : World) (hr0 : Kd.C (Kd.slice 3 (Kd.int .i64)) w A0 l0.length l0) (hc0 : l0.length ≤ c0) (h : spec_plCells.f k l0 = some r) :
    Calls Try.prog 210 #[.slice A0 l0.length c0] w fun e w' => ∃ v0_ : Value, e = .returned (v0_) ∧ Kd.R k70 70 w' w.heap.size (fun _ => True) v0_ r ∧ Below w.heap.size w w' := by
  have hu70 := Try.underlying70
  have HR0 := Aside0.mk hr0
  have HC0 := Aside0.mk hc0
  clear hr0 hc0
  have HB := Aside0.mk (Below.refl w.heap.size w)
  have H : (spec_plCells.l0 k ([] : List (S70)) l0 (l0.length : Int) 0) = some r := h
  clear h
  have H' := Aside0.mk H
  clear H
  go_enter Try.func210, Try.ntmps210
  go_wp2
  go_loopg [3, 10] k (fun kq v3 v10 w' => ∃ (x3_1 : List (S70)) (x10_1 : Int), v10 = .int .i64 x10_1 ∧ Aside0 (spec_plCells.l0 kq x3_1 l0 (l0.length : Int) x10_1 = some r) ∧ Aside0 (kq ≤ k) ∧ Aside0 (Kd.R k70 70 w' w.heap.size (fun _ => True) v3 x3_1) ∧ Aside0 (Below w.heap.size w w'))
  case atStart => exact ⟨(([] : List (S70))), (0), (by first | rfl | (simp; done) | (simp [*]; done)), H', ⟨Nat.le_refl _⟩, ⟨by first | exact Kd.R_nil _ _ _ _ _ | exact Kd.N_nil _ _ _ _ _ | exact Kd.V_nil _ _ _ _ _ | exact Kd.Q_nil _ _ _ _ _ | exact Kd.S_nil _ _ _ _ _⟩, ⟨by repeat (first | (with_reducible first | exact HB.out | apply below_alloc | apply pw_below_drewN | apply below_drew1) | exact HB.out)⟩⟩
  case round =>
    clear H'
    obtain ⟨x3_1, x10_1, rfl, HA, HK1, HO_3, HB⟩ := hrel
    cases gk with
    | zero => exact absurd HA.out (by simp [spec_plCells.l0])
    | succ k1 =>
      have H := HA.out
      clear HA
      simp only [spec_plCells.l0] at H
      by_cases c2 : x10_1 < (l0.length : Int)
      · rw [if_pos c2] at H
        have c2b0 : decide (x10_1 < (l0.length : Int)) = true := decide_eq_true c2
        clear c2
        by_cases c3 : 0 ≤ x10_1
        · rw [if_pos c3] at H
          have c3b0 : decide (0 ≤ x10_1) = true := decide_eq_true c3
          clear c3
          by_cases c4 : x10_1 < (l0.length : Int)
          · rw [if_pos c4] at H
            have c4b0 : decide (x10_1 < (l0.length : Int)) = true := decide_eq_true c4
            clear c4
            have H' := Aside0.mk H
            clear H
            have p624 : 0 ≤ (x10_1 : Int) := of_decide_eq_true (by first | (with_reducible assumption) | assumption)
            have q624 : x10_1 < (l0.length : Int) := of_decide_eq_true (by first | (with_reducible assumption) | assumption)
            obtain ⟨ad624, A624_0, c624_0, e624, hx624_0, hl624_0, hi624_0⟩ := at_L2 HR0.out x10_1 p624 q624
            cases e624
            replace hx624_0 := (HB.out.cell (World.block_lt_of_cell? w _ hx624_0)).trans hx624_0
            have HR624_0 := Aside0.mk hi624_0
            have HC624_0 := Aside0.mk hl624_0
            clear hi624_0 hl624_0
            replace p624 := eq_true p624
            replace q624 := eq_true q624
            go_wp2
            go_loopg [3, 17] k1 (fun kq v3 v17 w' => ∃ (x3_2 : List (S70)) (x17_2 : Int), v17 = .int .i64 x17_2 ∧ Aside0 (spec_plCells.l1 kq x3_2 x10_1 l0 (l0.length : Int) x10_1 (rd_L2 l0 x10_1) ((rd_L2 l0 x10_1).length : Int) x17_2 = some r) ∧ Aside0 (kq ≤ k1) ∧ Aside0 (Kd.R k70 70 w' w.heap.size (fun _ => True) v3 x3_2) ∧ Aside0 (Below w.heap.size w w'))
            case atStart => exact ⟨(x3_1), (0), (by first | rfl | (simp; done) | (simp [*]; done)), H', ⟨Nat.le_refl _⟩, ⟨by (with_reducible repeat (first | apply Kd.R_alloc | apply Kd.R_drewN | apply Kd.R_drew)); exact HO_3.out⟩, ⟨by repeat (first | (with_reducible first | exact HB.out | apply below_alloc | apply pw_below_drewN | apply below_drew1) | exact HB.out)⟩⟩
            case round =>
              clear H'
              try clear c2
              try clear c2b0
              try clear p2
              try clear c3
              try clear c3b0
              try clear c4
              try clear c4b0
              try clear hx624_0
              try clear p624
              try clear q624
              obtain ⟨x3_2, x17_2, rfl, HA, HK2, HO_3, HB⟩ := hrel
              cases gk with
              | zero => exact absurd HA.out (by simp [spec_plCells.l1])
              | succ k2 =>
                have H := HA.out
                clear HA
                simp only [spec_plCells.l1] at H
                by_cases c5 : x17_2 < ((rd_L2 l0 x10_1).length : Int)
                · rw [if_pos c5] at H
                  have c5b0 : decide (x17_2 < ((rd_L2 l0 x10_1).length : Int)) = true := decide_eq_true c5
                  clear c5
                  by_cases c6 : 0 ≤ x17_2
                  · rw [if_pos c6] at H
                    have c6b0 : decide (0 ≤ x17_2) = true := decide_eq_true c6
                    clear c6
                    by_cases c7 : x17_2 < ((rd_L2 l0 x10_1).length : Int)
                    · rw [if_pos c7] at H
                      have c7b0 : decide (x17_2 < ((rd_L2 l0 x10_1).length : Int)) = true := decide_eq_true c7
                      clear c7
                      by_cases c8 : (rd (rd_L2 l0 x10_1) x17_2) > 0
                      · rw [if_pos c8] at H
                        have c8b0 : decide (0 < (rd (rd_L2 l0 x10_1) x17_2)) = true := decide_eq_true c8
                        clear c8
                        by_cases c9 : x3_2.length < 8796093022208
                        · rw [if_pos c9] at H
                          have LMc9 := Aside0.mk c9
                          clear c9
                          obtain ⟨y626, hy626⟩ : ∃ y_ : List (S70), y_ = (x3_2 ++ [(⟨x10_1, x17_2⟩ : S70)]) := ⟨_, rfl⟩
                          replace H : (spec_plCells.l1 k2 y626 x10_1 l0 (l0.length : Int) x10_1 (rd_L2 l0 x10_1) ((rd_L2 l0 x10_1).length : Int) (wrap64 (x17_2 + 1))) = some r := by first | (rw [hy626]; with_reducible exact H) | (have H2_ := (Option.bind_some _ _).symm.trans H; rw [hy626]; with_reducible exact H2_) | (have H2_ := (Option.bind_some _ _).symm.trans H; with_reducible exact H2_) | with_reducible exact H | (rw [hy626]; exact H) | exact H
                          have Ny626 := Aside0.mk hy626
                          clear hy626
                          have H' := Aside0.mk H
                          clear H
                          have p625 : 0 ≤ (x17_2 : Int) := of_decide_eq_true (by first | (with_reducible assumption) | assumption)
                          have q625 : x17_2 < ((rd_L2 l0 x10_1).length : Int) := of_decide_eq_true (by first | (with_reducible assumption) | assumption)
                          obtain ⟨ad625, e625, hx625_0⟩ := Kd.at_int HR624_0.out x17_2 p625 q625
                          cases e625
                          replace hx625_0 := (HB.out.cell (World.block_lt_of_cell? w _ hx625_0)).trans hx625_0
                          replace p625 := eq_true p625
                          replace q625 := eq_true q625
                          go_wp2_with (first | ((with_reducible refine gate_builtin (b := .append) (xs := #[.tmp 24, .tmp 28]) rfl ?_); at_builtin; refine Kd.R_append k70 (w0 := w) w.heap.size rfl (.tmp 24) (.tmp 28) 56 70 (.agg #[(.int .i64 0), (.int .i64 0)]) 16 rfl Try.underlying56 info70 rfl (by decide) (by omega) u3 x3_2 (⟨x10_1, x17_2⟩ : S70) [.int .i64 x10_1, .int .i64 x17_2] (fun _ => True) (fun _ => False) rfl rfl ?aP (fun _ hk => hk.elim) ?aF ?aO ?aB ?aS ?aL ?_; (case aP => exact k70_mkM _ _ _ (⟨x10_1, x17_2⟩ : S70)); (case aB => exact (by repeat (first | (with_reducible first | exact HB.out | apply below_alloc | apply pw_below_drewN | apply below_drew1) | exact HB.out))); (case aF => exact (fun _ _ => trivial)); (case aO => exact (by (with_reducible repeat (first | apply Kd.R_alloc | apply Kd.R_drewN | apply Kd.R_drew)); exact HO_3.out)); (case aS => exact (below_size (by repeat (first | (with_reducible first | exact HB.out | apply below_alloc | apply pw_below_drewN | apply below_drew1) | exact HB.out)))); (case aL => have := LMc9.out; omega); intro v627 w10 ho hb hg hat; rw [← Ny626.out] at ho; have n0_ := Aside0.mk (hb); have n1_ := Aside0.mk (ho); clear HB; clear HO_3; have HB := n0_; have HO628 := n1_; clear n0_ n1_; clear ho hb hg hat))
                          go_roundg k2
                          case measure => have := HK1.out; have := HK2.out; omega
                          case rel => exact ⟨(y626), (wrap64 (x17_2 + 1)), (by first | rfl | (simp; done) | (simp [*]; done)), H', ⟨by have := HK1.out; have := HK2.out; omega⟩, ⟨by (with_reducible repeat (first | apply Kd.R_alloc | apply Kd.R_drewN | apply Kd.R_drew)); exact HO628.out⟩, ⟨by repeat (first | (with_reducible first | exact HB.out | apply below_alloc | apply pw_below_drewN | apply below_drew1) | exact HB.out)⟩⟩
                        · rw [if_neg c9] at H
                          exact absurd H (by simp)
                      · rw [if_neg c8] at H
                        have c8b0 : decide (0 < (rd (rd_L2 l0 x10_1) x17_2)) = false := decide_eq_false c8
                        clear c8
                        have H' := Aside0.mk H
                        clear H
                        have p625 : 0 ≤ (x17_2 : Int) := of_decide_eq_true (by first | (with_reducible assumption) | assumption)
                        have q625 : x17_2 < ((rd_L2 l0 x10_1).length : Int) := of_decide_eq_true (by first | (with_reducible assumption) | assumption)
                        obtain ⟨ad625, e625, hx625_0⟩ := Kd.at_int HR624_0.out x17_2 p625 q625
                        cases e625
                        replace hx625_0 := (HB.out.cell (World.block_lt_of_cell? w _ hx625_0)).trans hx625_0
                        replace p625 := eq_true p625
                        replace q625 := eq_true q625
                        go_wp2
                        go_roundg k2
                        case measure => have := HK1.out; have := HK2.out; omega
                        case rel => exact ⟨(x3_2), (wrap64 (x17_2 + 1)), (by first | rfl | (simp; done) | (simp [*]; done)), H', ⟨by have := HK1.out; have := HK2.out; omega⟩, ⟨by (with_reducible repeat (first | apply Kd.R_alloc | apply Kd.R_drewN | apply Kd.R_drew)); exact HO_3.out⟩, ⟨by repeat (first | (with_reducible first | exact HB.out | apply below_alloc | apply pw_below_drewN | apply below_drew1) | exact HB.out)⟩⟩
                    · rw [if_neg c7] at H
                      exact absurd H (by simp)
                  · rw [if_neg c6] at H
                    exact absurd H (by simp)
                · rw [if_neg c5] at H
                  have c5b0 : decide (x17_2 < ((rd_L2 l0 x10_1).length : Int)) = false := decide_eq_false c5
                  clear c5
                  have H' := Aside0.mk H
                  clear H
                  go_wp2
                  go_roundg k2
                  case measure => have := HK1.out; have := HK2.out; omega
                  case rel => exact ⟨(x3_2), (wrap64 (x10_1 + 1)), (by first | rfl | (simp; done) | (simp [*]; done)), H', ⟨by have := HK1.out; have := HK2.out; omega⟩, ⟨by (with_reducible repeat (first | apply Kd.R_alloc | apply Kd.R_drewN | apply Kd.R_drew)); exact HO_3.out⟩, ⟨by repeat (first | (with_reducible first | exact HB.out | apply below_alloc | apply pw_below_drewN | apply below_drew1) | exact HB.out)⟩⟩
          · rw [if_neg c4] at H
            exact absurd H (by simp)
        · rw [if_neg c3] at H
          exact absurd H (by simp)
      · rw [if_neg c2] at H
        have c2b0 : decide (x10_1 < (l0.length : Int)) = false := decide_eq_false c2
        clear c2
        obtain rfl := Option.some.inj H
        go_wp2
        go_ret
        exact ⟨_, by first | rfl | (simp [errW_none, errW_some] <;> rfl) | (simp [*, errW_none, errW_some] <;> rfl), by (with_reducible repeat (first | apply Kd.R_alloc | apply Kd.R_drewN | apply Kd.R_drew)); exact HO_3.out, by repeat (first | (with_reducible first | exact HB.out | apply below_alloc | apply pw_below_drewN | apply below_drew1) | exact HB.out)⟩

end Go.Proofs.Ytllnieknogficaa.K
namespace Go.Proofs.Ytllnieknogficaa.K
open Go.RowKit Go.Proofs.YtllnieknogficaaW.PrintWords Go.Proofs.YtllnieknogficaaW.PrintLast Go.Proofs.YtllnieknogficaaW.PrintMore
attribute [local go_sem] max2_int min2_int max_two min_two max_three min_three max_four min_four   -- for this text's walks alone
set_option linter.unusedVariables false
set_option linter.unusedSimpArgs false

/-! ### spec_plCrossing: function 140 -/
mutual
def spec_plCrossing.l0 : Nat → List (S70) → List (S70) → Int → Int → Option ((List (S70)) × Bool)
  | 0, _, _, _, _ => none
  | k + 1, x4, x11, x12, x13 => if x13 < x12 then (if 0 ≤ x13 then (if x13 < (x11.length : Int) then (spec_plCrossing.l1 k x4 x11 x12 x13 x4 (x4.length : Int) 0 ((rd_T70 x11 x13).f0) ((rd_T70 x11 x13).f1)) else (none)) else (none)) else (some (([] : List (S70)), false))
def spec_plCrossing.l1 : Nat → List (S70) → List (S70) → Int → Int → List (S70) → Int → Int → Int → Int → Option ((List (S70)) × Bool)
  | 0, _, _, _, _, _, _, _, _, _ => none
  | k + 1, x4, x11, x12, x13, x17, x18, x19, x634000, x634001 => if x19 < x18 then (if 0 ≤ x19 then (if x19 < (x17.length : Int) then (if x634000 < ((rd_T70 x17 x19).f0) then (if x634001 > ((rd_T70 x17 x19).f1) then (some ((([(⟨x634000, x634001⟩ : S70), (⟨(rd_T70 x17 x19).f0, (rd_T70 x17 x19).f1⟩ : S70)] : List (S70))), true)) else (spec_plCrossing.l1 k x4 x11 x12 x13 x17 x18 (wrap64 (x19 + 1)) x634000 x634001)) else (spec_plCrossing.l1 k x4 x11 x12 x13 x17 x18 (wrap64 (x19 + 1)) x634000 x634001)) else (none)) else (none)) else (spec_plCrossing.l0 k x4 x11 x12 (wrap64 (x13 + 1)))
end
def spec_plCrossing.f (k : Nat) (l0 : List (List Int)) : Option ((List (S70)) × Bool) := (spec_plCells.f k l0).bind fun t629 => (spec_plCrossing.l0 k t629 t629 (t629.length : Int) 0)
theorem spec_plCrossing.mono_l : ∀ k, (∀ y0 y1 y2 y3, LeO (spec_plCrossing.l0 k y0 y1 y2 y3) (spec_plCrossing.l0 (k + 1) y0 y1 y2 y3)) ∧ (∀ y0 y1 y2 y3 y4 y5 y6 y7 y8, LeO (spec_plCrossing.l1 k y0 y1 y2 y3 y4 y5 y6 y7 y8) (spec_plCrossing.l1 (k + 1) y0 y1 y2 y3 y4 y5 y6 y7 y8))
  | 0 => ⟨fun _ _ _ _ r h => by simp [spec_plCrossing.l0] at h, fun _ _ _ _ _ _ _ _ _ r h => by simp [spec_plCrossing.l1] at h⟩
  | k + 1 => by
    obtain ⟨ih0, ih1⟩ := spec_plCrossing.mono_l k
    refine ⟨?_, ?_⟩
    · intro y0 y1 y2 y3
      unfold spec_plCrossing.l0
      repeat' first
      | (with_reducible exact ih0 _ _ _ _)
      | (with_reducible exact ih1 _ _ _ _ _ _ _ _ _)
      | (with_reducible exact spec_plCells.mono _ _)
      | (with_reducible exact LeO.refl _)
      | (with_reducible exact LeO.none _)
      | (with_reducible refine LeO.ite ?_ ?_)
      | (with_reducible refine LeO.bind ?_ (fun _ => ?_))
      | exact ih0 _ _ _ _
      | exact ih1 _ _ _ _ _ _ _ _ _
      | exact spec_plCells.mono _ _
      | exact LeO.none _
      | refine LeO.ite ?_ ?_
      | refine LeO.bind ?_ (fun _ => ?_)
    · intro y0 y1 y2 y3 y4 y5 y6 y7 y8
      unfold spec_plCrossing.l1
      repeat' first
      | (with_reducible exact ih0 _ _ _ _)
      | (with_reducible exact ih1 _ _ _ _ _ _ _ _ _)
      | (with_reducible exact spec_plCells.mono _ _)
      | (with_reducible exact LeO.refl _)
      | (with_reducible exact LeO.none _)
      | (with_reducible refine LeO.ite ?_ ?_)
      | (with_reducible refine LeO.bind ?_ (fun _ => ?_))
      | exact ih0 _ _ _ _
      | exact ih1 _ _ _ _ _ _ _ _ _
      | exact spec_plCells.mono _ _
      | exact LeO.none _
      | refine LeO.ite ?_ ?_
      | refine LeO.bind ?_ (fun _ => ?_)
theorem spec_plCrossing.mono : ∀ a0 k, LeO (spec_plCrossing.f k a0) (spec_plCrossing.f (k + 1) a0) := by
  intro a0 k
  obtain ⟨ih0, ih1⟩ := spec_plCrossing.mono_l k
  unfold spec_plCrossing.f
  repeat' first
      | (with_reducible exact ih0 _ _ _ _)
      | (with_reducible exact ih1 _ _ _ _ _ _ _ _ _)
      | (with_reducible exact spec_plCells.mono _ _)
      | (with_reducible exact LeO.refl _)
      | (with_reducible exact LeO.none _)
      | (with_reducible refine LeO.ite ?_ ?_)
      | (with_reducible refine LeO.bind ?_ (fun _ => ?_))
      | exact ih0 _ _ _ _
      | exact ih1 _ _ _ _ _ _ _ _ _
      | exact spec_plCells.mono _ _
      | exact LeO.none _
      | refine LeO.ite ?_ ?_
      | refine LeO.bind ?_ (fun _ => ?_)
set_option maxHeartbeats 8000000 in
set_option maxRecDepth 100000 in
theorem spec_plCrossing.calls (k : Nat) (A0 : Option Addr) (c0 : Nat) (l0 : List (List Int)) (r1 : List (S70)) (r2 : Bool) (w : World) (hr0 : Kd.C (Kd.slice 3 (Kd.int .i64)) w A0 l0.length l0) (hc0 : l0.length ≤ c0) (h : spec_plCrossing.f k l0 = some (r1, r2)) :
    Calls Try.prog 140 #[.slice A0 l0.length c0] w fun e w' => ∃ v0_ : Value, e = .returned (.tuple #[v0_, .bool r2]) ∧ Kd.R k70 70 w' w.heap.size (fun _ => True) v0_ r1 ∧ Below w.heap.size w w' := by
  have hu70 := Try.underlying70
  have HR0 := Aside0.mk hr0
  have HC0 := Aside0.mk hc0
  clear hr0 hc0
  have HB := Aside0.mk (Below.refl w.heap.size w)
  have H : ((spec_plCells.f k l0).bind fun t629 => (spec_plCrossing.l0 k t629 t629 (t629.length : Int) 0)) = some (r1, r2) := h
  clear h
  replace H := Option.bind_eq_some_iff.mp H
  obtain ⟨t629, A20, H⟩ := H
  replace H : (spec_plCrossing.l0 k t629 t629 (t629.length : Int) 0) = some (r1, r2) := H
  have A2 := Aside0.mk A20
  clear A20
  have H' := Aside0.mk H
  clear H
  go_enter Try.func140, Try.ntmps140
  go_wp2_with (first | ((with_reducible refine gate_callee (f := 210) rfl ?_); refine goesL_ (some 10) rfl rfl Try.func210 (by kernel_rfl) rfl #[.slice A0 l0.length c0] rfl (by (try simp only [List.map_toArray, List.map_cons, List.map_nil]); first | done | rfl | (simp only [List.length_drop, List.length_take]; rfl)) ?_; (with_reducible refine (spec_plCells.calls k _ _ l0 t629 _ ?side1 ?side2 A2.out).mono ?_); (case side1 => repeat (first | exact HR0.out | (with_reducible refine Kd.C_alloc ?_ _) | (with_reducible refine Kd.C_drewN ?_ _) | (with_reducible refine Kd.C_drew ?_))); (case side2 => exact HC0.out); rintro e w3 ⟨v630, rfl, ho0, hb⟩; refine ⟨_, rfl, ?_⟩; have n0_ := Aside0.mk (Kd.R_lower ho0 (below_size (by repeat (first | (with_reducible first | exact HB.out | apply below_alloc | apply pw_below_drewN | apply below_drew1) | exact HB.out)))); have n1_ := Aside0.mk (below_step (by repeat (first | (with_reducible first | exact HB.out | apply below_alloc | apply pw_below_drewN | apply below_drew1) | exact HB.out)) hb); clear HB; have HO631 := n0_; have HB := n1_; clear n0_ n1_; (try clear hb); (try clear hb2); (try clear hk); (try clear hi); (try clear ho0); obtain ⟨Ao4, co4, eo4⟩ := Kd.R_slice HO631.out; subst eo4))
  go_loopg [13] k (fun kq v13 w' => ∃ (x13_1 : Int), v13 = .int .i64 x13_1 ∧ Aside0 (spec_plCrossing.l0 kq t629 t629 (t629.length : Int) x13_1 = some (r1, r2)) ∧ Aside0 (kq ≤ k) ∧ Aside0 (Kd.R k70 70 w' w.heap.size (fun _ => True) (.slice Ao4 t629.length co4) t629) ∧ Aside0 (Kd.R k70 70 w' w.heap.size (fun _ => True) (.slice Ao4 t629.length co4) t629) ∧ Aside0 (Below w.heap.size w w'))
  case atStart => exact ⟨(0), (by first | rfl | (simp; done) | (simp [*]; done)), H', ⟨Nat.le_refl _⟩, ⟨by (with_reducible repeat (first | apply Kd.R_alloc | apply Kd.R_drewN | apply Kd.R_drew)); exact HO631.out⟩, ⟨by (with_reducible repeat (first | apply Kd.R_alloc | apply Kd.R_drewN | apply Kd.R_drew)); exact HO631.out⟩, ⟨by repeat (first | (with_reducible first | exact HB.out | apply below_alloc | apply pw_below_drewN | apply below_drew1) | exact HB.out)⟩⟩
  case round =>
    clear H'
    try clear c1
    try clear c2
    try clear p2
    obtain ⟨x13_1, rfl, HA, HK1, HO_4, HO_11, HB⟩ := hrel
    cases gk with
    | zero => exact absurd HA.out (by simp [spec_plCrossing.l0])
    | succ k1 =>
      have H := HA.out
      clear HA
      simp only [spec_plCrossing.l0] at H
      by_cases c5 : x13_1 < (t629.length : Int)
      · rw [if_pos c5] at H
        have c5b0 : decide (x13_1 < (t629.length : Int)) = true := decide_eq_true c5
        clear c5
        by_cases c6 : 0 ≤ x13_1
        · rw [if_pos c6] at H
          have c6b0 : decide (0 ≤ x13_1) = true := decide_eq_true c6
          clear c6
          by_cases c7 : x13_1 < (t629.length : Int)
          · rw [if_pos c7] at H
            have c7b0 : decide (x13_1 < (t629.length : Int)) = true := decide_eq_true c7
            clear c7
            have H' := Aside0.mk H
            clear H
            have p632 : 0 ≤ (x13_1 : Int) := of_decide_eq_true (by first | (with_reducible assumption) | assumption)
            have q632 : x13_1 < (t629.length : Int) := of_decide_eq_true (by first | (with_reducible assumption) | assumption)
            obtain ⟨ad632, e632, hx632_0, hx632_1⟩ := at_T70 (Kd.R_reads' HO_11.out).2.2 x13_1 p632 q632
            cases e632
            replace p632 := eq_true p632
            replace q632 := eq_true q632
            go_wp2_with (first | ((with_reducible refine gate_dst (N := 6) rfl ?_); refine box_event ?hg (N := 6) ?hd (cs := #[.int .i64 0, .int .i64 0]) (t := 70) ?hr ?_; (case hd => rfl); (case hg => rfl); (case hr => first | (go_simp; done) | (go_simp; rfl)); intro gb633 hg w8 hbox hb; have n0_ := Aside0.mk (Kd.R_below (Kd.R_elderB (by (with_reducible repeat (first | apply Kd.R_alloc | apply Kd.R_drewN | apply Kd.R_drew)); exact HO_4.out) gb633 (Nat.le_of_eq hg.symm)) hb); have n1_ := Aside0.mk (Kd.R_below (Kd.R_elderB (by (with_reducible repeat (first | apply Kd.R_alloc | apply Kd.R_drewN | apply Kd.R_drew)); exact HO_11.out) gb633 (Nat.le_of_eq hg.symm)) hb); have n2_ := Aside0.mk (below_step (by repeat (first | (with_reducible first | exact HB.out | apply below_alloc | apply pw_below_drewN | apply below_drew1) | exact HB.out)) hb); have n3_ := Aside0.mk (hbox); have n4_ := Aside0.mk ((by rw [hg]; exact (below_size (by repeat (first | (with_reducible first | exact HB.out | apply below_alloc | apply pw_below_drewN | apply below_drew1) | exact HB.out))) : w.heap.size ≤ gb633)); have n5_ := Aside0.mk ((by rw [hg]; exact (below_size (by repeat (first | (with_reducible first | exact HB.out | apply below_alloc | apply pw_below_drewN | apply below_drew1) | exact HB.out))) : w.heap.size ≤ gb633)); clear HO_4; clear HO_11; clear HB; have HO_4 := n0_; have HO_11 := n1_; have HB := n2_; have BK633 := n3_; have GW633 := n4_; have GE633 := n5_; clear n0_ n1_ n2_ n3_ n4_ n5_; clear hb hbox hg; have hcz9_0 : w8.cell? ⟨gb633, 0, none⟩ = some (.int .i64 0) := (blk_cell BK633.out 0).trans rfl; have hcz9_1 : w8.cell? ⟨gb633, 1, none⟩ = some (.int .i64 0) := (blk_cell BK633.out 1).trans rfl; have hfz9_0 := blk_frozen BK633.out 0; have hfz9_1 := blk_frozen BK633.out 1))
            go_loopg [19] k1 (fun kq v19 w' => ∃ (x19_2 : Int), v19 = .int .i64 x19_2 ∧ Aside0 (spec_plCrossing.l1 kq t629 t629 (t629.length : Int) x13_1 t629 (t629.length : Int) x19_2 ((rd_T70 t629 x13_1).f0) ((rd_T70 t629 x13_1).f1) = some (r1, r2)) ∧ Aside0 (kq ≤ k1) ∧ Aside0 (Kd.R k70 70 w' w.heap.size (fun k_ => k_ ≠ gb633) (.slice (some ad632) t629.length co4) t629) ∧ Aside0 (Kd.R k70 70 w' w.heap.size (fun k_ => k_ ≠ gb633) (.slice (some ad632) t629.length co4) t629) ∧ Aside0 (Kd.R k70 70 w' w.heap.size (fun k_ => k_ ≠ gb633) (.slice (some ad632) t629.length co4) t629) ∧ Aside0 (w'.heap[gb633]? = some (.cells #[.int .i64 ((rd_T70 t629 x13_1).f0), .int .i64 ((rd_T70 t629 x13_1).f1)] 70 (0, 0))) ∧ Aside0 (Below w.heap.size w w'))
            case atStart => exact ⟨(0), (by first | rfl | (simp; done) | (simp [*]; done)), H', ⟨Nat.le_refl _⟩, ⟨by (with_reducible repeat (first | apply Kd.R_alloc | apply Kd.R_drewN | apply Kd.R_drew)); exact Kd.R_mono (Kd.R_far (p := ⟨gb633, 1, none⟩) (Kd.R_far (p := ⟨gb633, 0, none⟩) (Kd.R_mono HO_4.out (fun k_ hk => (⟨hk, hk.2⟩ : _ ∧ k_ ≠ gb633))) (fun _ hk => hk.2) (.int .i64 ((rd_T70 t629 x13_1).f0))) (fun _ hk => hk.2) (.int .i64 ((rd_T70 t629 x13_1).f1))) (fun _ hk => hk.1.2)⟩, ⟨by (with_reducible repeat (first | apply Kd.R_alloc | apply Kd.R_drewN | apply Kd.R_drew)); exact Kd.R_mono (Kd.R_far (p := ⟨gb633, 1, none⟩) (Kd.R_far (p := ⟨gb633, 0, none⟩) (Kd.R_mono HO_11.out (fun k_ hk => (⟨hk, hk.2⟩ : _ ∧ k_ ≠ gb633))) (fun _ hk => hk.2) (.int .i64 ((rd_T70 t629 x13_1).f0))) (fun _ hk => hk.2) (.int .i64 ((rd_T70 t629 x13_1).f1))) (fun _ hk => hk.1.2)⟩, ⟨by (with_reducible repeat (first | apply Kd.R_alloc | apply Kd.R_drewN | apply Kd.R_drew)); exact Kd.R_mono (Kd.R_far (p := ⟨gb633, 1, none⟩) (Kd.R_far (p := ⟨gb633, 0, none⟩) (Kd.R_mono HO_4.out (fun k_ hk => (⟨hk, hk.2⟩ : _ ∧ k_ ≠ gb633))) (fun _ hk => hk.2) (.int .i64 ((rd_T70 t629 x13_1).f0))) (fun _ hk => hk.2) (.int .i64 ((rd_T70 t629 x13_1).f1))) (fun _ hk => hk.1.2)⟩, ⟨by (with_reducible repeat (first | refine blk_drewN ?_ _ | refine blk_drew ?_ | refine blk_alloc ?_ _)); refine blk_put (cs := #[.int .i64 ((rd_T70 t629 x13_1).f0), .int .i64 0]) ?_ 1 _ rfl; (with_reducible repeat (first | refine blk_drewN ?_ _ | refine blk_drew ?_ | refine blk_alloc ?_ _)); refine blk_put (cs := #[.int .i64 0, .int .i64 0]) ?_ 0 _ rfl; (with_reducible repeat (first | refine blk_drewN ?_ _ | refine blk_drew ?_ | refine blk_alloc ?_ _)); exact BK633.out⟩, ⟨by repeat (first | (with_reducible first | exact HB.out | apply below_alloc | apply pw_below_drewN | apply below_drew1 | refine below_set ?_ GE633.out) | exact HB.out)⟩⟩
            case round =>
              clear H'
              try clear c1
              try clear c2
              try clear p2
              try clear c5
              try clear c5b0
              try clear c6
              try clear c6b0
              try clear p6
              try clear q6
              try clear hx6
              try clear c7
              try clear c7b0
              try clear hcz9_0
              try clear hcz9_1
              try clear hfz9_0
              try clear hfz9_1
              try clear hx632_0
              try clear hx632_1
              try clear p2
              try clear p632
              try clear q632
              obtain ⟨x19_2, rfl, HA, HK2, HO_4, HO_11, HO_17, BK633, HB⟩ := hrel
              cases gk with
              | zero => exact absurd HA.out (by simp [spec_plCrossing.l1])
              | succ k2 =>
                have H := HA.out
                clear HA
                simp only [spec_plCrossing.l1] at H
                by_cases c10 : x19_2 < (t629.length : Int)
                · rw [if_pos c10] at H
                  have c10b0 : decide (x19_2 < (t629.length : Int)) = true := decide_eq_true c10
                  clear c10
                  by_cases c11 : 0 ≤ x19_2
                  · rw [if_pos c11] at H
                    have c11b0 : decide (0 ≤ x19_2) = true := decide_eq_true c11
                    clear c11
                    by_cases c12 : x19_2 < (t629.length : Int)
                    · rw [if_pos c12] at H
                      have c12b0 : decide (x19_2 < (t629.length : Int)) = true := decide_eq_true c12
                      clear c12
                      by_cases c13 : ((rd_T70 t629 x13_1).f0) < ((rd_T70 t629 x19_2).f0)
                      · rw [if_pos c13] at H
                        have c13b0 : decide (((rd_T70 t629 x13_1).f0) < ((rd_T70 t629 x19_2).f0)) = true := decide_eq_true c13
                        clear c13
                        by_cases c14 : ((rd_T70 t629 x13_1).f1) > ((rd_T70 t629 x19_2).f1)
                        · rw [if_pos c14] at H
                          have c14b0 : decide (((rd_T70 t629 x19_2).f1) < ((rd_T70 t629 x13_1).f1)) = true := decide_eq_true c14
                          clear c14
                          obtain ⟨y636, hy636⟩ : ∃ y_ : List (S70), y_ = (([(⟨((rd_T70 t629 x13_1).f0), ((rd_T70 t629 x13_1).f1)⟩ : S70), (⟨(rd_T70 t629 x19_2).f0, (rd_T70 t629 x19_2).f1⟩ : S70)] : List (S70))) := ⟨_, rfl⟩
                          replace H : (some (y636, true)) = some (r1, r2) := by first | (rw [hy636]; with_reducible exact H) | (have H2_ := (Option.bind_some _ _).symm.trans H; rw [hy636]; with_reducible exact H2_) | (have H2_ := (Option.bind_some _ _).symm.trans H; with_reducible exact H2_) | with_reducible exact H | (rw [hy636]; exact H) | exact H
                          have Ny636 := Aside0.mk hy636
                          clear hy636
                          simp only [Option.some.injEq, Prod.mk.injEq] at H
                          obtain ⟨rfl, rfl⟩ := H
                          have p634 : 0 ≤ (x19_2 : Int) := of_decide_eq_true (by first | (with_reducible assumption) | assumption)
                          have q634 : x19_2 < (t629.length : Int) := of_decide_eq_true (by first | (with_reducible assumption) | assumption)
                          obtain ⟨ad634, e634, hx634_0, hx634_1⟩ := at_T70 (Kd.R_reads' HO_17.out).2.2 x19_2 p634 q634
                          obtain rfl : ad632 = ad634 := (by injection e634)
                          replace p634 := eq_true p634
                          replace q634 := eq_true q634
                          go_wp2_with (first | ((with_reducible refine gate_dst (N := 8) rfl ?_); refine box_event ?hg (N := 8) ?hd (cs := #[.int .i64 0, .int .i64 0]) (t := 70) ?hr ?_; (case hd => rfl); (case hg => rfl); (case hr => first | (go_simp; done) | (go_simp; rfl)); intro gb635 hg w15 hbox hb; have n0_ := Aside0.mk (Kd.R_below (Kd.R_elderB (by (with_reducible repeat (first | apply Kd.R_alloc | apply Kd.R_drewN | apply Kd.R_drew)); exact HO_4.out) gb635 (Nat.le_of_eq hg.symm)) hb); have n1_ := Aside0.mk (Kd.R_below (Kd.R_elderB (by (with_reducible repeat (first | apply Kd.R_alloc | apply Kd.R_drewN | apply Kd.R_drew)); exact HO_11.out) gb635 (Nat.le_of_eq hg.symm)) hb); have n2_ := Aside0.mk (Kd.R_below (Kd.R_elderB (by (with_reducible repeat (first | apply Kd.R_alloc | apply Kd.R_drewN | apply Kd.R_drew)); exact HO_17.out) gb635 (Nat.le_of_eq hg.symm)) hb); have n3_ := Aside0.mk (blk_below (g := gb633) (o := .cells #[.int .i64 ((rd_T70 t629 x13_1).f0), .int .i64 ((rd_T70 t629 x13_1).f1)] 70 (0, 0)) (by (with_reducible repeat (first | refine blk_drewN ?_ _ | refine blk_drew ?_ | refine blk_alloc ?_ _)); exact BK633.out) hb); have n4_ := Aside0.mk (below_step (by repeat (first | (with_reducible first | exact HB.out | apply below_alloc | apply pw_below_drewN | apply below_drew1 | refine below_set ?_ GE633.out) | exact HB.out)) hb); have n5_ := Aside0.mk (hbox); have n6_ := Aside0.mk ((by rw [hg]; exact (below_size (by repeat (first | (with_reducible first | exact HB.out | apply below_alloc | apply pw_below_drewN | apply below_drew1 | refine below_set ?_ GE633.out) | exact HB.out))) : w.heap.size ≤ gb635)); have n7_ := Aside0.mk ((by rw [hg]; exact (below_size (by repeat (first | (with_reducible first | exact HB.out | apply below_alloc | apply pw_below_drewN | apply below_drew1 | refine below_set ?_ GE633.out) | exact HB.out))) : w.heap.size ≤ gb635)); have n8_ := Aside0.mk ((by rw [hg]; exact Nat.ne_of_lt (blk_lt (g := gb633) (o := .cells #[.int .i64 ((rd_T70 t629 x13_1).f0), .int .i64 ((rd_T70 t629 x13_1).f1)] 70 (0, 0)) (by (with_reducible repeat (first | refine blk_drewN ?_ _ | refine blk_drew ?_ | refine blk_alloc ?_ _)); exact BK633.out)) : gb633 ≠ gb635)); have n9_ := Aside0.mk ((by rw [hg]; exact Nat.ne_of_gt (blk_lt (g := gb633) (o := .cells #[.int .i64 ((rd_T70 t629 x13_1).f0), .int .i64 ((rd_T70 t629 x13_1).f1)] 70 (0, 0)) (by (with_reducible repeat (first | refine blk_drewN ?_ _ | refine blk_drew ?_ | refine blk_alloc ?_ _)); exact BK633.out)) : gb635 ≠ gb633)); clear HO_4; clear HO_11; clear HO_17; clear BK633; clear HB; have HO_4 := n0_; have HO_11 := n1_; have HO_17 := n2_; have BK633 := n3_; have HB := n4_; have BK635 := n5_; have GW635 := n6_; have GE635 := n7_; have NB633_635 := n8_; have NB635_633 := n9_; clear n0_ n1_ n2_ n3_ n4_ n5_ n6_ n7_ n8_ n9_; clear hb hbox hg; have hnb16 := NB635_633.out; have hnc16 := NB633_635.out; have hcz17_0 : w15.cell? ⟨gb635, 0, none⟩ = some (.int .i64 0) := (blk_cell BK635.out 0).trans rfl; have hcz17_1 : w15.cell? ⟨gb635, 1, none⟩ = some (.int .i64 0) := (blk_cell BK635.out 1).trans rfl; have hfz17_0 := blk_frozen BK635.out 0; have hfz17_1 := blk_frozen BK635.out 1; have hcz18_0 : w15.cell? ⟨gb633, 0, none⟩ = some (.int .i64 ((rd_T70 t629 x13_1).f0)) := (blk_cell BK633.out 0).trans rfl; have hcz18_1 : w15.cell? ⟨gb633, 1, none⟩ = some (.int .i64 ((rd_T70 t629 x13_1).f1)) := (blk_cell BK633.out 1).trans rfl; have hfz18_0 := blk_frozen BK633.out 0; have hfz18_1 := blk_frozen BK633.out 1) | ((with_reducible refine gate_dst (N := 37) rfl ?_); refine Kd.R_lit k70 _ 70 ?hg (N := 37) ?hd (xs := ([(⟨((rd_T70 t629 x13_1).f0), ((rd_T70 t629 x13_1).f1)⟩ : S70), (⟨(rd_T70 t629 x19_2).f0, (rd_T70 t629 x19_2).f1⟩ : S70)] : List (S70))) (inner := [.int .i64 ((rd_T70 t629 x13_1).f0), .int .i64 ((rd_T70 t629 x13_1).f1), .int .i64 ((rd_T70 t629 x19_2).f0), .int .i64 ((rd_T70 t629 x19_2).f1)]) (ok := fun _ => True) (okp := fun _ => True) ?hr ?hp (fun _ hk => hk) trivial (Below.refl _ _) (Nat.le_refl _) (by simp) ?_; (case hd => rfl); (case hg => rfl); (case hr => first | (go_simp; done) | (go_simp; rfl)); (case hp => exact (Reps.c2 (show Kd.M k70 _ _ _ (⟨((rd_T70 t629 x13_1).f0), ((rd_T70 t629 x13_1).f1)⟩ : S70) [.int .i64 ((rd_T70 t629 x13_1).f0), .int .i64 ((rd_T70 t629 x13_1).f1)] from (k70_mkM _ _ _ (⟨((rd_T70 t629 x13_1).f0), ((rd_T70 t629 x13_1).f1)⟩ : S70) )) (Reps.c2 (show Kd.M k70 _ _ _ (⟨(rd_T70 t629 x19_2).f0, (rd_T70 t629 x19_2).f1⟩ : S70) [.int .i64 ((rd_T70 t629 x19_2).f0), .int .i64 ((rd_T70 t629 x19_2).f1)] from (k70_mkM _ _ _ (⟨(rd_T70 t629 x19_2).f0, (rd_T70 t629 x19_2).f1⟩ : S70) )) (Reps.none _ _)))); intro v637 w19 ho20 hb hg_ hnew_; clear hg_ hnew_; (first | rw [← Ny636.out] at ho20 | (simp only [Int.reduceToNat] at ho20; rw [← Ny636.out] at ho20)); have n0_ := Aside0.mk (Kd.R_elder' (by (with_reducible repeat (first | apply Kd.R_alloc | apply Kd.R_drewN | apply Kd.R_drew)); exact (Kd.R_mono (Kd.R_far (p := ⟨gb635, 1, none⟩) (Kd.R_far (p := ⟨gb635, 0, none⟩) (Kd.R_mono HO_4.out (fun k_ hk => (⟨hk, hk.2⟩ : _ ∧ k_ ≠ gb635))) (fun _ hk => hk.2) (.int .i64 ((rd_T70 t629 x19_2).f0))) (fun _ hk => hk.2) (.int .i64 ((rd_T70 t629 x19_2).f1))) (fun _ h_ => h_.1))) (Kd.R_base ho20) hb); have n1_ := Aside0.mk (Kd.R_elder' (by (with_reducible repeat (first | apply Kd.R_alloc | apply Kd.R_drewN | apply Kd.R_drew)); exact (Kd.R_mono (Kd.R_far (p := ⟨gb635, 1, none⟩) (Kd.R_far (p := ⟨gb635, 0, none⟩) (Kd.R_mono HO_11.out (fun k_ hk => (⟨hk, hk.2⟩ : _ ∧ k_ ≠ gb635))) (fun _ hk => hk.2) (.int .i64 ((rd_T70 t629 x19_2).f0))) (fun _ hk => hk.2) (.int .i64 ((rd_T70 t629 x19_2).f1))) (fun _ h_ => h_.1))) (Kd.R_base ho20) hb); have n2_ := Aside0.mk (Kd.R_elder' (by (with_reducible repeat (first | apply Kd.R_alloc | apply Kd.R_drewN | apply Kd.R_drew)); exact (Kd.R_mono (Kd.R_far (p := ⟨gb635, 1, none⟩) (Kd.R_far (p := ⟨gb635, 0, none⟩) (Kd.R_mono HO_17.out (fun k_ hk => (⟨hk, hk.2⟩ : _ ∧ k_ ≠ gb635))) (fun _ hk => hk.2) (.int .i64 ((rd_T70 t629 x19_2).f0))) (fun _ hk => hk.2) (.int .i64 ((rd_T70 t629 x19_2).f1))) (fun _ h_ => h_.1))) (Kd.R_base ho20) hb); have n3_ := Aside0.mk (Kd.R_lower (Kd.R_newB (Kd.R_newB (Kd.R_new' (Kd.R_new' (Kd.R_new' ho20 (Kd.R_lt (by (with_reducible repeat (first | apply Kd.R_alloc | apply Kd.R_drewN | apply Kd.R_drew)); exact (Kd.R_mono (Kd.R_far (p := ⟨gb635, 1, none⟩) (Kd.R_far (p := ⟨gb635, 0, none⟩) (Kd.R_mono HO_4.out (fun k_ hk => (⟨hk, hk.2⟩ : _ ∧ k_ ≠ gb635))) (fun _ hk => hk.2) (.int .i64 ((rd_T70 t629 x19_2).f0))) (fun _ hk => hk.2) (.int .i64 ((rd_T70 t629 x19_2).f1))) (fun _ h_ => h_.1))))) (Kd.R_lt (by (with_reducible repeat (first | apply Kd.R_alloc | apply Kd.R_drewN | apply Kd.R_drew)); exact (Kd.R_mono (Kd.R_far (p := ⟨gb635, 1, none⟩) (Kd.R_far (p := ⟨gb635, 0, none⟩) (Kd.R_mono HO_11.out (fun k_ hk => (⟨hk, hk.2⟩ : _ ∧ k_ ≠ gb635))) (fun _ hk => hk.2) (.int .i64 ((rd_T70 t629 x19_2).f0))) (fun _ hk => hk.2) (.int .i64 ((rd_T70 t629 x19_2).f1))) (fun _ h_ => h_.1))))) (Kd.R_lt (by (with_reducible repeat (first | apply Kd.R_alloc | apply Kd.R_drewN | apply Kd.R_drew)); exact (Kd.R_mono (Kd.R_far (p := ⟨gb635, 1, none⟩) (Kd.R_far (p := ⟨gb635, 0, none⟩) (Kd.R_mono HO_17.out (fun k_ hk => (⟨hk, hk.2⟩ : _ ∧ k_ ≠ gb635))) (fun _ hk => hk.2) (.int .i64 ((rd_T70 t629 x19_2).f0))) (fun _ hk => hk.2) (.int .i64 ((rd_T70 t629 x19_2).f1))) (fun _ h_ => h_.1))))) (g := gb633) (o := .cells #[.int .i64 ((rd_T70 t629 x13_1).f0), .int .i64 ((rd_T70 t629 x13_1).f1)] 70 (0, 0)) (by (with_reducible repeat (first | refine blk_drewN ?_ _ | refine blk_drew ?_ | refine blk_alloc ?_ _)); refine blk_far ?_ NB633_635.out _; (with_reducible repeat (first | refine blk_drewN ?_ _ | refine blk_drew ?_ | refine blk_alloc ?_ _)); refine blk_far ?_ NB633_635.out _; (with_reducible repeat (first | refine blk_drewN ?_ _ | refine blk_drew ?_ | refine blk_alloc ?_ _)); exact BK633.out)) (g := gb635) (o := .cells #[.int .i64 ((rd_T70 t629 x19_2).f0), .int .i64 ((rd_T70 t629 x19_2).f1)] 70 (0, 0)) (by (with_reducible repeat (first | refine blk_drewN ?_ _ | refine blk_drew ?_ | refine blk_alloc ?_ _)); refine blk_put (cs := #[.int .i64 ((rd_T70 t629 x19_2).f0), .int .i64 0]) ?_ 1 _ rfl; (with_reducible repeat (first | refine blk_drewN ?_ _ | refine blk_drew ?_ | refine blk_alloc ?_ _)); refine blk_put (cs := #[.int .i64 0, .int .i64 0]) ?_ 0 _ rfl; (with_reducible repeat (first | refine blk_drewN ?_ _ | refine blk_drew ?_ | refine blk_alloc ?_ _)); exact BK635.out)) (below_size (by repeat (first | (with_reducible first | exact HB.out | apply below_alloc | apply pw_below_drewN | apply below_drew1 | refine below_set ?_ GE633.out | refine below_set ?_ GE635.out) | exact HB.out)))); have n4_ := Aside0.mk (blk_below (g := gb633) (o := .cells #[.int .i64 ((rd_T70 t629 x13_1).f0), .int .i64 ((rd_T70 t629 x13_1).f1)] 70 (0, 0)) (by (with_reducible repeat (first | refine blk_drewN ?_ _ | refine blk_drew ?_ | refine blk_alloc ?_ _)); refine blk_far ?_ NB633_635.out _; (with_reducible repeat (first | refine blk_drewN ?_ _ | refine blk_drew ?_ | refine blk_alloc ?_ _)); refine blk_far ?_ NB633_635.out _; (with_reducible repeat (first | refine blk_drewN ?_ _ | refine blk_drew ?_ | refine blk_alloc ?_ _)); exact BK633.out) hb); have n5_ := Aside0.mk (blk_below (g := gb635) (o := .cells #[.int .i64 ((rd_T70 t629 x19_2).f0), .int .i64 ((rd_T70 t629 x19_2).f1)] 70 (0, 0)) (by (with_reducible repeat (first | refine blk_drewN ?_ _ | refine blk_drew ?_ | refine blk_alloc ?_ _)); refine blk_put (cs := #[.int .i64 ((rd_T70 t629 x19_2).f0), .int .i64 0]) ?_ 1 _ rfl; (with_reducible repeat (first | refine blk_drewN ?_ _ | refine blk_drew ?_ | refine blk_alloc ?_ _)); refine blk_put (cs := #[.int .i64 0, .int .i64 0]) ?_ 0 _ rfl; (with_reducible repeat (first | refine blk_drewN ?_ _ | refine blk_drew ?_ | refine blk_alloc ?_ _)); exact BK635.out) hb); have n6_ := Aside0.mk (below_step (by repeat (first | (with_reducible first | exact HB.out | apply below_alloc | apply pw_below_drewN | apply below_drew1 | refine below_set ?_ GE633.out | refine below_set ?_ GE635.out) | exact HB.out)) hb); clear HO_4; clear HO_11; clear HO_17; clear BK633; clear BK635; clear HB; have HO_4 := n0_; have HO_11 := n1_; have HO_17 := n2_; have HO638 := n3_; have BK633 := n4_; have BK635 := n5_; have HB := n6_; clear n0_ n1_ n2_ n3_ n4_ n5_ n6_; clear hb ho20))
                          go_ret2
                          exact ⟨_, by first | rfl | (simp [errW_none, errW_some] <;> rfl) | (simp [*, errW_none, errW_some] <;> rfl), by (with_reducible repeat (first | apply Kd.R_alloc | apply Kd.R_drewN | apply Kd.R_drew)); exact Kd.R_mono HO638.out (fun _ hk => trivial), by repeat (first | (with_reducible first | exact HB.out | apply below_alloc | apply pw_below_drewN | apply below_drew1 | refine below_set ?_ GE633.out | refine below_set ?_ GE635.out) | exact HB.out)⟩
                        · rw [if_neg c14] at H
                          have c14b0 : decide (((rd_T70 t629 x19_2).f1) < ((rd_T70 t629 x13_1).f1)) = false := decide_eq_false c14
                          clear c14
                          have H' := Aside0.mk H
                          clear H
                          have p634 : 0 ≤ (x19_2 : Int) := of_decide_eq_true (by first | (with_reducible assumption) | assumption)
                          have q634 : x19_2 < (t629.length : Int) := of_decide_eq_true (by first | (with_reducible assumption) | assumption)
                          obtain ⟨ad634, e634, hx634_0, hx634_1⟩ := at_T70 (Kd.R_reads' HO_17.out).2.2 x19_2 p634 q634
                          obtain rfl : ad632 = ad634 := (by injection e634)
                          replace p634 := eq_true p634
                          replace q634 := eq_true q634
                          go_wp2_with (first | ((with_reducible refine gate_dst (N := 8) rfl ?_); refine box_event ?hg (N := 8) ?hd (cs := #[.int .i64 0, .int .i64 0]) (t := 70) ?hr ?_; (case hd => rfl); (case hg => rfl); (case hr => first | (go_simp; done) | (go_simp; rfl)); intro gb635 hg w21 hbox hb; have n0_ := Aside0.mk (Kd.R_below (Kd.R_elderB (by (with_reducible repeat (first | apply Kd.R_alloc | apply Kd.R_drewN | apply Kd.R_drew)); exact HO_4.out) gb635 (Nat.le_of_eq hg.symm)) hb); have n1_ := Aside0.mk (Kd.R_below (Kd.R_elderB (by (with_reducible repeat (first | apply Kd.R_alloc | apply Kd.R_drewN | apply Kd.R_drew)); exact HO_11.out) gb635 (Nat.le_of_eq hg.symm)) hb); have n2_ := Aside0.mk (Kd.R_below (Kd.R_elderB (by (with_reducible repeat (first | apply Kd.R_alloc | apply Kd.R_drewN | apply Kd.R_drew)); exact HO_17.out) gb635 (Nat.le_of_eq hg.symm)) hb); have n3_ := Aside0.mk (blk_below (g := gb633) (o := .cells #[.int .i64 ((rd_T70 t629 x13_1).f0), .int .i64 ((rd_T70 t629 x13_1).f1)] 70 (0, 0)) (by (with_reducible repeat (first | refine blk_drewN ?_ _ | refine blk_drew ?_ | refine blk_alloc ?_ _)); exact BK633.out) hb); have n4_ := Aside0.mk (below_step (by repeat (first | (with_reducible first | exact HB.out | apply below_alloc | apply pw_below_drewN | apply below_drew1 | refine below_set ?_ GE633.out) | exact HB.out)) hb); have n5_ := Aside0.mk (hbox); have n6_ := Aside0.mk ((by rw [hg]; exact (below_size (by repeat (first | (with_reducible first | exact HB.out | apply below_alloc | apply pw_below_drewN | apply below_drew1 | refine below_set ?_ GE633.out) | exact HB.out))) : w.heap.size ≤ gb635)); have n7_ := Aside0.mk ((by rw [hg]; exact (below_size (by repeat (first | (with_reducible first | exact HB.out | apply below_alloc | apply pw_below_drewN | apply below_drew1 | refine below_set ?_ GE633.out) | exact HB.out))) : w.heap.size ≤ gb635)); have n8_ := Aside0.mk ((by rw [hg]; exact Nat.ne_of_lt (blk_lt (g := gb633) (o := .cells #[.int .i64 ((rd_T70 t629 x13_1).f0), .int .i64 ((rd_T70 t629 x13_1).f1)] 70 (0, 0)) (by (with_reducible repeat (first | refine blk_drewN ?_ _ | refine blk_drew ?_ | refine blk_alloc ?_ _)); exact BK633.out)) : gb633 ≠ gb635)); have n9_ := Aside0.mk ((by rw [hg]; exact Nat.ne_of_gt (blk_lt (g := gb633) (o := .cells #[.int .i64 ((rd_T70 t629 x13_1).f0), .int .i64 ((rd_T70 t629 x13_1).f1)] 70 (0, 0)) (by (with_reducible repeat (first | refine blk_drewN ?_ _ | refine blk_drew ?_ | refine blk_alloc ?_ _)); exact BK633.out)) : gb635 ≠ gb633)); clear HO_4; clear HO_11; clear HO_17; clear BK633; clear HB; have HO_4 := n0_; have HO_11 := n1_; have HO_17 := n2_; have BK633 := n3_; have HB := n4_; have BK635 := n5_; have GW635 := n6_; have GE635 := n7_; have NB633_635 := n8_; have NB635_633 := n9_; clear n0_ n1_ n2_ n3_ n4_ n5_ n6_ n7_ n8_ n9_; clear hb hbox hg; have hnb22 := NB635_633.out; have hnc22 := NB633_635.out; have hcz23_0 : w21.cell? ⟨gb635, 0, none⟩ = some (.int .i64 0) := (blk_cell BK635.out 0).trans rfl; have hcz23_1 : w21.cell? ⟨gb635, 1, none⟩ = some (.int .i64 0) := (blk_cell BK635.out 1).trans rfl; have hfz23_0 := blk_frozen BK635.out 0; have hfz23_1 := blk_frozen BK635.out 1; have hcz24_0 : w21.cell? ⟨gb633, 0, none⟩ = some (.int .i64 ((rd_T70 t629 x13_1).f0)) := (blk_cell BK633.out 0).trans rfl; have hcz24_1 : w21.cell? ⟨gb633, 1, none⟩ = some (.int .i64 ((rd_T70 t629 x13_1).f1)) := (blk_cell BK633.out 1).trans rfl; have hfz24_0 := blk_frozen BK633.out 0; have hfz24_1 := blk_frozen BK633.out 1))
                          go_roundg k2
                          case measure => have := HK1.out; have := HK2.out; omega
                          case rel => exact ⟨(wrap64 (x19_2 + 1)), (by first | rfl | (simp; done) | (simp [*]; done)), H', ⟨by have := HK1.out; have := HK2.out; omega⟩, ⟨by (with_reducible repeat (first | apply Kd.R_alloc | apply Kd.R_drewN | apply Kd.R_drew)); exact Kd.R_mono (Kd.R_far (p := ⟨gb635, 1, none⟩) (Kd.R_far (p := ⟨gb635, 0, none⟩) (Kd.R_mono HO_4.out (fun k_ hk => (⟨hk, hk.2⟩ : _ ∧ k_ ≠ gb635))) (fun _ hk => hk.2) (.int .i64 ((rd_T70 t629 x19_2).f0))) (fun _ hk => hk.2) (.int .i64 ((rd_T70 t629 x19_2).f1))) (fun _ hk => hk.1.1)⟩, ⟨by (with_reducible repeat (first | apply Kd.R_alloc | apply Kd.R_drewN | apply Kd.R_drew)); exact Kd.R_mono (Kd.R_far (p := ⟨gb635, 1, none⟩) (Kd.R_far (p := ⟨gb635, 0, none⟩) (Kd.R_mono HO_11.out (fun k_ hk => (⟨hk, hk.2⟩ : _ ∧ k_ ≠ gb635))) (fun _ hk => hk.2) (.int .i64 ((rd_T70 t629 x19_2).f0))) (fun _ hk => hk.2) (.int .i64 ((rd_T70 t629 x19_2).f1))) (fun _ hk => hk.1.1)⟩, ⟨by (with_reducible repeat (first | apply Kd.R_alloc | apply Kd.R_drewN | apply Kd.R_drew)); exact Kd.R_mono (Kd.R_far (p := ⟨gb635, 1, none⟩) (Kd.R_far (p := ⟨gb635, 0, none⟩) (Kd.R_mono HO_17.out (fun k_ hk => (⟨hk, hk.2⟩ : _ ∧ k_ ≠ gb635))) (fun _ hk => hk.2) (.int .i64 ((rd_T70 t629 x19_2).f0))) (fun _ hk => hk.2) (.int .i64 ((rd_T70 t629 x19_2).f1))) (fun _ hk => hk.1.1)⟩, ⟨by (with_reducible repeat (first | refine blk_drewN ?_ _ | refine blk_drew ?_ | refine blk_alloc ?_ _)); refine blk_far ?_ NB633_635.out _; (with_reducible repeat (first | refine blk_drewN ?_ _ | refine blk_drew ?_ | refine blk_alloc ?_ _)); refine blk_far ?_ NB633_635.out _; (with_reducible repeat (first | refine blk_drewN ?_ _ | refine blk_drew ?_ | refine blk_alloc ?_ _)); exact BK633.out⟩, ⟨by repeat (first | (with_reducible first | exact HB.out | apply below_alloc | apply pw_below_drewN | apply below_drew1 | refine below_set ?_ GE633.out | refine below_set ?_ GE635.out) | exact HB.out)⟩⟩
                      · rw [if_neg c13] at H
                        have c13b0 : decide (((rd_T70 t629 x13_1).f0) < ((rd_T70 t629 x19_2).f0)) = false := decide_eq_false c13
                        clear c13
                        have H' := Aside0.mk H
                        clear H
                        have p634 : 0 ≤ (x19_2 : Int) := of_decide_eq_true (by first | (with_reducible assumption) | assumption)
                        have q634 : x19_2 < (t629.length : Int) := of_decide_eq_true (by first | (with_reducible assumption) | assumption)
                        obtain ⟨ad634, e634, hx634_0, hx634_1⟩ := at_T70 (Kd.R_reads' HO_17.out).2.2 x19_2 p634 q634
                        obtain rfl : ad632 = ad634 := (by injection e634)
                        replace p634 := eq_true p634
                        replace q634 := eq_true q634
                        go_wp2_with (first | ((with_reducible refine gate_dst (N := 8) rfl ?_); refine box_event ?hg (N := 8) ?hd (cs := #[.int .i64 0, .int .i64 0]) (t := 70) ?hr ?_; (case hd => rfl); (case hg => rfl); (case hr => first | (go_simp; done) | (go_simp; rfl)); intro gb635 hg w25 hbox hb; have n0_ := Aside0.mk (Kd.R_below (Kd.R_elderB (by (with_reducible repeat (first | apply Kd.R_alloc | apply Kd.R_drewN | apply Kd.R_drew)); exact HO_4.out) gb635 (Nat.le_of_eq hg.symm)) hb); have n1_ := Aside0.mk (Kd.R_below (Kd.R_elderB (by (with_reducible repeat (first | apply Kd.R_alloc | apply Kd.R_drewN | apply Kd.R_drew)); exact HO_11.out) gb635 (Nat.le_of_eq hg.symm)) hb); have n2_ := Aside0.mk (Kd.R_below (Kd.R_elderB (by (with_reducible repeat (first | apply Kd.R_alloc | apply Kd.R_drewN | apply Kd.R_drew)); exact HO_17.out) gb635 (Nat.le_of_eq hg.symm)) hb); have n3_ := Aside0.mk (blk_below (g := gb633) (o := .cells #[.int .i64 ((rd_T70 t629 x13_1).f0), .int .i64 ((rd_T70 t629 x13_1).f1)] 70 (0, 0)) (by (with_reducible repeat (first | refine blk_drewN ?_ _ | refine blk_drew ?_ | refine blk_alloc ?_ _)); exact BK633.out) hb); have n4_ := Aside0.mk (below_step (by repeat (first | (with_reducible first | exact HB.out | apply below_alloc | apply pw_below_drewN | apply below_drew1 | refine below_set ?_ GE633.out) | exact HB.out)) hb); have n5_ := Aside0.mk (hbox); have n6_ := Aside0.mk ((by rw [hg]; exact (below_size (by repeat (first | (with_reducible first | exact HB.out | apply below_alloc | apply pw_below_drewN | apply below_drew1 | refine below_set ?_ GE633.out) | exact HB.out))) : w.heap.size ≤ gb635)); have n7_ := Aside0.mk ((by rw [hg]; exact (below_size (by repeat (first | (with_reducible first | exact HB.out | apply below_alloc | apply pw_below_drewN | apply below_drew1 | refine below_set ?_ GE633.out) | exact HB.out))) : w.heap.size ≤ gb635)); have n8_ := Aside0.mk ((by rw [hg]; exact Nat.ne_of_lt (blk_lt (g := gb633) (o := .cells #[.int .i64 ((rd_T70 t629 x13_1).f0), .int .i64 ((rd_T70 t629 x13_1).f1)] 70 (0, 0)) (by (with_reducible repeat (first | refine blk_drewN ?_ _ | refine blk_drew ?_ | refine blk_alloc ?_ _)); exact BK633.out)) : gb633 ≠ gb635)); have n9_ := Aside0.mk ((by rw [hg]; exact Nat.ne_of_gt (blk_lt (g := gb633) (o := .cells #[.int .i64 ((rd_T70 t629 x13_1).f0), .int .i64 ((rd_T70 t629 x13_1).f1)] 70 (0, 0)) (by (with_reducible repeat (first | refine blk_drewN ?_ _ | refine blk_drew ?_ | refine blk_alloc ?_ _)); exact BK633.out)) : gb635 ≠ gb633)); clear HO_4; clear HO_11; clear HO_17; clear BK633; clear HB; have HO_4 := n0_; have HO_11 := n1_; have HO_17 := n2_; have BK633 := n3_; have HB := n4_; have BK635 := n5_; have GW635 := n6_; have GE635 := n7_; have NB633_635 := n8_; have NB635_633 := n9_; clear n0_ n1_ n2_ n3_ n4_ n5_ n6_ n7_ n8_ n9_; clear hb hbox hg; have hnb26 := NB635_633.out; have hnc26 := NB633_635.out; have hcz27_0 : w25.cell? ⟨gb635, 0, none⟩ = some (.int .i64 0) := (blk_cell BK635.out 0).trans rfl; have hcz27_1 : w25.cell? ⟨gb635, 1, none⟩ = some (.int .i64 0) := (blk_cell BK635.out 1).trans rfl; have hfz27_0 := blk_frozen BK635.out 0; have hfz27_1 := blk_frozen BK635.out 1; have hcz28_0 : w25.cell? ⟨gb633, 0, none⟩ = some (.int .i64 ((rd_T70 t629 x13_1).f0)) := (blk_cell BK633.out 0).trans rfl; have hcz28_1 : w25.cell? ⟨gb633, 1, none⟩ = some (.int .i64 ((rd_T70 t629 x13_1).f1)) := (blk_cell BK633.out 1).trans rfl; have hfz28_0 := blk_frozen BK633.out 0; have hfz28_1 := blk_frozen BK633.out 1))
                        go_roundg k2
                        case measure => have := HK1.out; have := HK2.out; omega
                        case rel => exact ⟨(wrap64 (x19_2 + 1)), (by first | rfl | (simp; done) | (simp [*]; done)), H', ⟨by have := HK1.out; have := HK2.out; omega⟩, ⟨by (with_reducible repeat (first | apply Kd.R_alloc | apply Kd.R_drewN | apply Kd.R_drew)); exact Kd.R_mono (Kd.R_far (p := ⟨gb635, 1, none⟩) (Kd.R_far (p := ⟨gb635, 0, none⟩) (Kd.R_mono HO_4.out (fun k_ hk => (⟨hk, hk.2⟩ : _ ∧ k_ ≠ gb635))) (fun _ hk => hk.2) (.int .i64 ((rd_T70 t629 x19_2).f0))) (fun _ hk => hk.2) (.int .i64 ((rd_T70 t629 x19_2).f1))) (fun _ hk => hk.1.1)⟩, ⟨by (with_reducible repeat (first | apply Kd.R_alloc | apply Kd.R_drewN | apply Kd.R_drew)); exact Kd.R_mono (Kd.R_far (p := ⟨gb635, 1, none⟩) (Kd.R_far (p := ⟨gb635, 0, none⟩) (Kd.R_mono HO_11.out (fun k_ hk => (⟨hk, hk.2⟩ : _ ∧ k_ ≠ gb635))) (fun _ hk => hk.2) (.int .i64 ((rd_T70 t629 x19_2).f0))) (fun _ hk => hk.2) (.int .i64 ((rd_T70 t629 x19_2).f1))) (fun _ hk => hk.1.1)⟩, ⟨by (with_reducible repeat (first | apply Kd.R_alloc | apply Kd.R_drewN | apply Kd.R_drew)); exact Kd.R_mono (Kd.R_far (p := ⟨gb635, 1, none⟩) (Kd.R_far (p := ⟨gb635, 0, none⟩) (Kd.R_mono HO_17.out (fun k_ hk => (⟨hk, hk.2⟩ : _ ∧ k_ ≠ gb635))) (fun _ hk => hk.2) (.int .i64 ((rd_T70 t629 x19_2).f0))) (fun _ hk => hk.2) (.int .i64 ((rd_T70 t629 x19_2).f1))) (fun _ hk => hk.1.1)⟩, ⟨by (with_reducible repeat (first | refine blk_drewN ?_ _ | refine blk_drew ?_ | refine blk_alloc ?_ _)); refine blk_far ?_ NB633_635.out _; (with_reducible repeat (first | refine blk_drewN ?_ _ | refine blk_drew ?_ | refine blk_alloc ?_ _)); refine blk_far ?_ NB633_635.out _; (with_reducible repeat (first | refine blk_drewN ?_ _ | refine blk_drew ?_ | refine blk_alloc ?_ _)); exact BK633.out⟩, ⟨by repeat (first | (with_reducible first | exact HB.out | apply below_alloc | apply pw_below_drewN | apply below_drew1 | refine below_set ?_ GE633.out | refine below_set ?_ GE635.out) | exact HB.out)⟩⟩
                    · rw [if_neg c12] at H
                      exact absurd H (by simp)
                  · rw [if_neg c11] at H
                    exact absurd H (by simp)
                · rw [if_neg c10] at H
                  have c10b0 : decide (x19_2 < (t629.length : Int)) = false := decide_eq_false c10
                  clear c10
                  have H' := Aside0.mk H
                  clear H
                  go_wp2
                  go_roundg k2
                  case measure => have := HK1.out; have := HK2.out; omega
                  case rel => exact ⟨(wrap64 (x13_1 + 1)), (by first | rfl | (simp; done) | (simp [*]; done)), H', ⟨by have := HK1.out; have := HK2.out; omega⟩, ⟨by (with_reducible repeat (first | apply Kd.R_alloc | apply Kd.R_drewN | apply Kd.R_drew)); exact Kd.R_mono HO_4.out (fun _ hk => trivial)⟩, ⟨by (with_reducible repeat (first | apply Kd.R_alloc | apply Kd.R_drewN | apply Kd.R_drew)); exact Kd.R_mono HO_11.out (fun _ hk => trivial)⟩, ⟨by repeat (first | (with_reducible first | exact HB.out | apply below_alloc | apply pw_below_drewN | apply below_drew1 | refine below_set ?_ GE633.out) | exact HB.out)⟩⟩
          · rw [if_neg c7] at H
            exact absurd H (by simp)
        · rw [if_neg c6] at H
          exact absurd H (by simp)
      · rw [if_neg c5] at H
        have c5b0 : decide (x13_1 < (t629.length : Int)) = false := decide_eq_false c5
        clear c5
        simp only [Option.some.injEq, Prod.mk.injEq] at H
        obtain ⟨rfl, rfl⟩ := H
        go_wp2
        go_ret2
        exact ⟨_, by first | rfl | (simp [errW_none, errW_some] <;> rfl) | (simp [*, errW_none, errW_some] <;> rfl), by first | exact Kd.R_nil _ _ _ _ _ | exact Kd.N_nil _ _ _ _ _ | exact Kd.V_nil _ _ _ _ _ | exact Kd.Q_nil _ _ _ _ _ | exact Kd.S_nil _ _ _ _ _, by repeat (first | (with_reducible first | exact HB.out | apply below_alloc | apply pw_below_drewN | apply below_drew1) | exact HB.out)⟩

end Go.Proofs.Ytllnieknogficaa.K
namespace Go.Proofs.Ytllnieknogficaa.K
open Go.RowKit Go.Proofs.YtllnieknogficaaW.PrintWords Go.Proofs.YtllnieknogficaaW.PrintLast Go.Proofs.YtllnieknogficaaW.PrintMore
attribute [local go_sem] max2_int min2_int max_two min_two max_three min_three max_four min_four   -- for this text's walks alone
set_option linter.unusedVariables false
set_option linter.unusedSimpArgs false

/-! ### spec_CrossingOf: function 50 -/
def spec_CrossingOf.f (k : Nat) (l0 : List (List Int)) : Option ((List (S70)) × Bool) := (spec_plGood.f k l0).bind fun t639 => (if t639 = true then ((spec_plCrossing.f k l0).bind fun bt640 => (some (bt640.1, bt640.2))) else (some (([] : List (S70)), false)))
theorem spec_CrossingOf.mono : ∀ a0 k, LeO (spec_CrossingOf.f k a0) (spec_CrossingOf.f (k + 1) a0) := by
  intro a0 k
  unfold spec_CrossingOf.f
  repeat' first
      | (with_reducible exact spec_plCrossing.mono _ _)
      | (with_reducible exact spec_plGood.mono _ _)
      | (with_reducible exact LeO.refl _)
      | (with_reducible exact LeO.none _)
      | (with_reducible refine LeO.ite ?_ ?_)
      | (with_reducible refine LeO.bind ?_ (fun _ => ?_))
      | exact spec_plCrossing.mono _ _
      | exact spec_plGood.mono _ _
      | exact LeO.none _
      | refine LeO.ite ?_ ?_
      | refine LeO.bind ?_ (fun _ => ?_)
set_option maxHeartbeats 8000000 in
set_option maxRecDepth 100000 in
theorem spec_CrossingOf.calls (k : Nat) (A0 : Option Addr) (c0 : Nat) (l0 : List (List Int)) (r1 : List (S70)) (r2 : Bool) (w : World) (hr0 : Kd.C (Kd.slice 3 (Kd.int .i64)) w A0 l0.length l0) (hc0 : l0.length ≤ c0) (h : spec_CrossingOf.f k l0 = some (r1, r2)) :
    Calls Try.prog 50 #[.slice A0 l0.length c0] w fun e w' => ∃ v0_ : Value, e = .returned (.tuple #[v0_, .bool r2]) ∧ Kd.R k70 70 w' w.heap.size (fun _ => True) v0_ r1 ∧ Below w.heap.size w w' := by
  have HR0 := Aside0.mk hr0
  have HC0 := Aside0.mk hc0
  clear hr0 hc0
  have HB := Aside0.mk (Below.refl w.heap.size w)
  have H : ((spec_plGood.f k l0).bind fun t639 => (if t639 = true then ((spec_plCrossing.f k l0).bind fun bt640 => (some (bt640.1, bt640.2))) else (some (([] : List (S70)), false)))) = some (r1, r2) := h
  clear h
  replace H := Option.bind_eq_some_iff.mp H
  obtain ⟨t639, A20, H⟩ := H
  replace H : (if t639 = true then ((spec_plCrossing.f k l0).bind fun bt640 => (some (bt640.1, bt640.2))) else (some (([] : List (S70)), false))) = some (r1, r2) := H
  have A2 := Aside0.mk A20
  clear A20
  by_cases c3 : t639 = true
  · subst c3
    have H1 : ((spec_plCrossing.f k l0).bind fun bt640 => (some (bt640.1, bt640.2))) = some (r1, r2) := by rw [if_pos rfl] at H; exact H
    clear H
    have H := H1
    clear H1
    replace H := Option.bind_eq_some_iff.mp H
    obtain ⟨⟨t640, t641⟩, A40, H⟩ := H
    replace H : (some (t640, t641)) = some (r1, r2) := H
    have A4 := Aside0.mk A40
    clear A40
    simp only [Option.some.injEq, Prod.mk.injEq] at H
    obtain ⟨rfl, rfl⟩ := H
    go_enter Try.func50, Try.ntmps50
    go_wp2_with (first | ((with_reducible refine gate_callee (f := 125) rfl ?_); refine goesL_ (some 5) rfl rfl Try.func125 (by kernel_rfl) rfl #[.slice A0 l0.length c0] rfl (by (try simp only [List.map_toArray, List.map_cons, List.map_nil]); first | done | rfl | (simp only [List.length_drop, List.length_take]; rfl)) ?_; (with_reducible refine (spec_plGood.calls k _ _ l0 true _ ?side1 ?side2 A2.out).mono ?_); (case side1 => repeat (first | exact HR0.out | (with_reducible refine Kd.C_alloc ?_ _) | (with_reducible refine Kd.C_drewN ?_ _) | (with_reducible refine Kd.C_drew ?_))); (case side2 => exact HC0.out); rintro e w' ⟨rfl, ⟨nd, rfl⟩⟩; refine ⟨_, rfl, ?_⟩) | ((with_reducible refine gate_callee (f := 140) rfl ?_); refine goesL_ (some 8) rfl rfl Try.func140 (by kernel_rfl) rfl #[.slice A0 l0.length c0] rfl (by (try simp only [List.map_toArray, List.map_cons, List.map_nil]); first | done | rfl | (simp only [List.length_drop, List.length_take]; rfl)) ?_; (with_reducible refine (spec_plCrossing.calls k _ _ l0 t640 t641 _ ?side1 ?side2 A4.out).mono ?_); (case side1 => repeat (first | exact HR0.out | (with_reducible refine Kd.C_alloc ?_ _) | (with_reducible refine Kd.C_drewN ?_ _) | (with_reducible refine Kd.C_drew ?_))); (case side2 => exact HC0.out); rintro e w5 ⟨v642, rfl, ho0, hb⟩; refine ⟨_, rfl, ?_⟩; have n0_ := Aside0.mk (Kd.R_lower ho0 (below_size (by repeat (first | (with_reducible first | exact HB.out | apply below_alloc | apply pw_below_drewN | apply below_drew1) | exact HB.out)))); have n1_ := Aside0.mk (below_step (by repeat (first | (with_reducible first | exact HB.out | apply below_alloc | apply pw_below_drewN | apply below_drew1) | exact HB.out)) hb); clear HB; have HO643 := n0_; have HB := n1_; clear n0_ n1_; (try clear hb); (try clear hb2); (try clear hk); (try clear hi); (try clear ho0)))
    go_ret2
    exact ⟨_, by first | rfl | (simp [errW_none, errW_some] <;> rfl) | (simp [*, errW_none, errW_some] <;> rfl), by (with_reducible repeat (first | apply Kd.R_alloc | apply Kd.R_drewN | apply Kd.R_drew)); exact HO643.out, by repeat (first | (with_reducible first | exact HB.out | apply below_alloc | apply pw_below_drewN | apply below_drew1) | exact HB.out)⟩
  · replace c3 := Bool.eq_false_iff.mpr c3
    subst c3
    have H1 : (some (([] : List (S70)), false)) = some (r1, r2) := by rw [if_neg (show ¬ (false = true) by decide)] at H; exact H
    clear H
    have H := H1
    clear H1
    simp only [Option.some.injEq, Prod.mk.injEq] at H
    obtain ⟨rfl, rfl⟩ := H
    go_enter Try.func50, Try.ntmps50
    go_wp2_with (first | ((with_reducible refine gate_callee (f := 125) rfl ?_); refine goesL_ (some 5) rfl rfl Try.func125 (by kernel_rfl) rfl #[.slice A0 l0.length c0] rfl (by (try simp only [List.map_toArray, List.map_cons, List.map_nil]); first | done | rfl | (simp only [List.length_drop, List.length_take]; rfl)) ?_; (with_reducible refine (spec_plGood.calls k _ _ l0 false _ ?side1 ?side2 A2.out).mono ?_); (case side1 => repeat (first | exact HR0.out | (with_reducible refine Kd.C_alloc ?_ _) | (with_reducible refine Kd.C_drewN ?_ _) | (with_reducible refine Kd.C_drew ?_))); (case side2 => exact HC0.out); rintro e w' ⟨rfl, ⟨nd, rfl⟩⟩; refine ⟨_, rfl, ?_⟩))
    go_ret2
    exact ⟨_, by first | rfl | (simp [errW_none, errW_some] <;> rfl) | (simp [*, errW_none, errW_some] <;> rfl), by first | exact Kd.R_nil _ _ _ _ _ | exact Kd.N_nil _ _ _ _ _ | exact Kd.V_nil _ _ _ _ _ | exact Kd.Q_nil _ _ _ _ _ | exact Kd.S_nil _ _ _ _ _, by repeat (first | (with_reducible first | exact HB.out | apply below_alloc | apply pw_below_drewN | apply below_drew1) | exact HB.out)⟩

end Go.Proofs.Ytllnieknogficaa.K
namespace Go.Proofs.Ytllnieknogficaa.K
open Go.RowKit Go.Proofs.YtllnieknogficaaW.PrintWords Go.Proofs.YtllnieknogficaaW.PrintLast Go.Proofs.YtllnieknogficaaW.PrintMore
attribute [local go_sem] max2_int min2_int max_two min_two max_three min_three max_four min_four   -- for this text's walks alone
set_option linter.unusedVariables false
set_option linter.unusedSimpArgs false
/-- The first answer from place j on. -/
def rowFrom {β : Type} (P : Nat → Option β) (n j : Nat) : Option β := ((List.range n).drop j).findSome? P
theorem rowFrom_end {β : Type} (P : Nat → Option β) (n j : Nat) (h : n ≤ j) : rowFrom P n j = none := by
  unfold rowFrom
  rw [List.drop_of_length_le (by simpa using h)]
  rfl
theorem rowFrom_step {β : Type} (P : Nat → Option β) (n j : Nat) (h : j < n) : rowFrom P n j = match P j with | some b => some b | none => rowFrom P n (j + 1) := by
  unfold rowFrom
  rw [List.drop_eq_getElem_cons (by simpa using h), List.findSome?_cons, List.getElem_range]
  rfl
theorem rowFrom_none {β : Type} (P : Nat → Option β) (n : Nat) : ∀ d j, n - j = d → (∀ q, j ≤ q → q < n → P q = none) → rowFrom P n j = none := by
  intro d
  induction d with
  | zero => intro j hd _; exact rowFrom_end P n j (by omega)
  | succ d ih =>
    intro j hd h
    rw [rowFrom_step P n j (by omega), h j (by omega) (by omega)]
    exact ih (j + 1) (by omega) (fun q h1 h2 => h q (by omega) h2)
theorem rowFrom_skip {β : Type} (P : Nat → Option β) (n i : Nat) (hi : i ≤ n) (h : ∀ q, q < i → P q = none) : ∀ d j, i - j = d → j ≤ i → rowFrom P n j = rowFrom P n i := by
  intro d
  induction d with
  | zero => intro j hd hj; rw [show j = i by omega]
  | succ d ih =>
    intro j hd hj
    rw [rowFrom_step P n j (by omega), h j (by omega)]
    exact ih (j + 1) (by omega) (by omega)
theorem rowFrom_cut {β : Type} (P : Nat → Option β) (n i : Nat) (hi : i ≤ n) (h : ∀ q, i ≤ q → q < n → P q = none) : ∀ d j, i - j = d → j ≤ i → rowFrom P n j = rowFrom P i j := by
  intro d
  induction d with
  | zero => intro j hd hj; rw [show j = i by omega, rowFrom_end P i i (Nat.le_refl _)]; exact rowFrom_none P n _ i rfl h
  | succ d ih =>
    intro j hd hj
    rw [rowFrom_step P n j (by omega), rowFrom_step P i j (by omega), ih (j + 1) (by omega) (by omega)]
theorem rowFrom_congr {β : Type} (P Q : Nat → Option β) (n j : Nat) (h : ∀ q, q < n → P q = Q q) : rowFrom P n j = rowFrom Q n j := by
  unfold rowFrom
  have : ∀ l : List Nat, (∀ q ∈ l, q < n) → l.findSome? P = l.findSome? Q := by
    intro l hl
    induction l with
    | nil => rfl
    | cons a t ih =>
      rw [List.findSome?_cons, List.findSome?_cons, h a (hl a (List.mem_cons_self ..)), ih (fun q hq => hl q (List.mem_cons_of_mem _ hq))]
  exact this _ (fun q hq => List.mem_range.1 (List.mem_of_mem_drop hq))
def at_ (l : List (List Int)) (i j : Nat) : Int := (l.getD i []).getD j 0
/-- The first crossing: its two cells. -/
def crossY (l : List (List Int)) (i j : Nat) : Option (Int × Int × Int × Int) := rowFrom (fun r => rowFrom (fun c => if at_ l r c > 0 then some ((i : Int), (j : Int), (r : Int), (c : Int)) else none) j 0) l.length (i + 1)
def crossX (l : List (List Int)) (i : Nat) : Option (Int × Int × Int × Int) := rowFrom (fun j => if at_ l i j = 0 then none else crossY l i j) l.length 0
def crossOf (l : List (List Int)) : Option (Int × Int × Int × Int) := rowFrom (fun i => crossX l i) l.length 0
def crossR (o : Option (Int × Int × Int × Int)) : Int × Int × Int × Int × Bool := match o with | some (a, b, c, d) => (a, b, c, d, true) | none => (0, 0, 0, 0, false)
theorem row_len (l : List (List Int)) (hr : ∀ r ∈ l, r.length = l.length) (i : Nat) (h : i < l.length) : l[i].length = l.length := hr _ (List.getElem_mem h)
theorem at_row (l : List (List Int)) (i j : Nat) (h : i < l.length) : rd l[i] (j : Int) = at_ l i j := by
  rw [rd_nat_getD]
  simp [at_, h]
section
variable (l : List (List Int)) (hl : l.length ≤ 8) (hr : ∀ r ∈ l, r.length = l.length)
include hl hr
theorem cross_l3 (i j r : Nat) (hi : i < l.length) (hj : j < l.length) (hrr : r < l.length) (x11 : List (List Int)) (x12 x13 : Int) (x18 : List Int) (x19 x20 : Int) (q : Int × Int × Int × Int × Bool)
    (hnext : (∀ c, c < j → ¬ at_ l r c > 0) → Ev (fun k => impl_crossing.l2 k l (i : Int) (j : Int) ((r + 1 : Nat) : Int) x11 x12 x13 x18 x19 x20) q) (hhit : ∀ c, rowFrom (fun c => if at_ l r c > 0 then some ((i : Int), (j : Int), (r : Int), (c : Int)) else none) j 0 = some ((i : Int), (j : Int), (r : Int), (c : Int)) → q = ((i : Int), (j : Int), (r : Int), (c : Int), true)) :
    ∀ d (c : Nat), c ≤ j → j - c = d → (∀ q, q < c → ¬ at_ l r q > 0) → Ev (fun k => impl_crossing.l3 k l (i : Int) (j : Int) (r : Int) x11 x12 x13 x18 x19 x20 (j : Int) (c : Int)) q := by
  intro d
  induction d with
  | zero =>
    intro c hc hd hn
    have : c = j := by omega
    subst this
    refine ev_succ ?_
    simp only [impl_crossing.l3, if_neg (Int.lt_irrefl _), wrap64_nat_succ (show r < 9223372036854775807 by omega)]
    exact hnext hn
  | succ d ih =>
    intro c hc hd hn
    have h1 : (c : Int) < (j : Int) := by omega
    have h2 : (0 : Int) ≤ (r : Int) := by omega
    have h3 : (r : Int) < (l.length : Int) := by omega
    have h4 : (0 : Int) ≤ (c : Int) := by omega
    have hlen := row_len l hr r hrr
    have h5 : (c : Int) < ((rd_L2 l (r : Int)).length : Int) := by rw [rdL_nat l r hrr, hlen]; omega
    have h6 : rd (rd_L2 l (r : Int)) (c : Int) = at_ l r c := by rw [rdL_nat l r hrr]; exact at_row l r c hrr
    refine ev_succ ?_
    simp only [impl_crossing.l3, if_pos h1, if_pos h2, if_pos h3, if_pos h4, if_pos h5, h6, wrap64_nat_succ (show c < 9223372036854775807 by omega)]
    by_cases hp : at_ l r c > 0
    · simp only [if_pos hp]
      refine ev_now _ _ (hhit c ?_).symm
      rw [rowFrom_skip _ j c (by omega) (fun q hq => if_neg (hn q hq)) c 0 (by omega) (by omega), rowFrom_step _ _ _ (by omega), if_pos hp]
    · simp only [if_neg hp]
      refine ih (c + 1) (by omega) (by omega) (fun q hq => ?_)
      by_cases e : q = c
      · subst e; exact hp
      · exact hn q (by omega)
theorem cross_l2 (i j : Nat) (hi : i < l.length) (hj : j < l.length) (x11 : List (List Int)) (x12 x13 : Int) (x18 : List Int) (x19 : Int) (o q : Int × Int × Int × Int × Bool)
    (hnext : Ev (fun k => impl_crossing.l1 k l (i : Int) x11 x12 x13 x18 x19 ((j + 1 : Nat) : Int)) o) (hq : q = match crossY l i j with | some (a, b, c, d) => (a, b, c, d, true) | none => o) :
    ∀ d (r : Nat), i < r → r ≤ l.length → l.length - r = d → crossY l i j = rowFrom (fun r => rowFrom (fun c => if at_ l r c > 0 then some ((i : Int), (j : Int), (r : Int), (c : Int)) else none) j 0) l.length r →
    Ev (fun k => impl_crossing.l2 k l (i : Int) (j : Int) (r : Int) x11 x12 x13 x18 x19 (j : Int)) q := by
  intro d
  induction d with
  | zero =>
    intro r hir hrl hd he
    have : r = l.length := by omega
    subst this
    rw [rowFrom_end _ _ _ (Nat.le_refl _)] at he
    rw [he] at hq
    subst hq
    refine ev_succ ?_
    simp only [impl_crossing.l2, if_neg (Int.lt_irrefl _), wrap64_nat_succ (show j < 9223372036854775807 by omega)]
    exact hnext
  | succ d ih =>
    intro r hir hrl hd he
    have h1 : (r : Int) < (l.length : Int) := by omega
    refine ev_succ ?_
    simp only [impl_crossing.l2, if_pos h1]
    rw [rowFrom_step _ _ _ (by omega)] at he
    refine cross_l3 l hl hr i j r hi hj (by omega) x11 x12 x13 x18 x19 (j : Int) q (fun hn => ?_) (fun c hc => ?_) j 0 (by omega) (by omega) (fun q h => by omega)
    · rw [rowFrom_none _ j j 0 (by omega) (fun q _ h2 => if_neg (hn q h2))] at he
      exact ih (r + 1) (by omega) (by omega) (by omega) he
    · rw [hc] at he
      rw [he] at hq
      exact hq
theorem cross_l1 (i : Nat) (hi : i < l.length) (o q : Int × Int × Int × Int × Bool)
    (hnext : Ev (fun k => impl_crossing.l0 k l l (l.length : Int) ((i + 1 : Nat) : Int)) o) (hq : q = match crossX l i with | some (a, b, c, d) => (a, b, c, d, true) | none => o) :
    ∀ d (j : Nat), j ≤ l.length → l.length - j = d → crossX l i = rowFrom (fun j => if at_ l i j = 0 then none else crossY l i j) l.length j →
    Ev (fun k => impl_crossing.l1 k l (i : Int) l (l.length : Int) (i : Int) l[i] (l[i].length : Int) (j : Int)) q := by
  have hlen := row_len l hr i hi
  intro d
  induction d with
  | zero =>
    intro j hj hd he
    have : j = l.length := by omega
    subst this
    rw [rowFrom_end _ _ _ (Nat.le_refl _)] at he
    rw [he] at hq
    subst hq
    refine ev_succ ?_
    simp only [impl_crossing.l1, hlen, if_neg (Int.lt_irrefl _), wrap64_nat_succ (show i < 9223372036854775807 by omega)]
    exact hnext
  | succ d ih =>
    intro j hj hd he
    have h1 : (j : Int) < (l[i].length : Int) := by omega
    have h2 : (0 : Int) ≤ (j : Int) := by omega
    rw [rowFrom_step _ _ _ (by omega)] at he
    refine ev_succ ?_
    simp only [impl_crossing.l1, if_pos h1, if_pos h2, at_row l i j hi, wrap64_nat_succ (show j < 9223372036854775807 by omega), wrap64_nat_succ (show i < 9223372036854775807 by omega)]
    by_cases hz : at_ l i j = 0
    · rw [if_pos hz] at he
      simp only [if_pos hz]
      exact ih (j + 1) (by omega) (by omega) he
    · rw [if_neg hz] at he
      simp only [if_neg hz]
      cases hy : crossY l i j with
      | none =>
        rw [hy] at he
        exact cross_l2 l hl hr i j hi (by omega) l (l.length : Int) (i : Int) l[i] (l[i].length : Int) q q (ih (j + 1) (by omega) (by omega) he) (by rw [hy]) _ (i + 1) (by omega) (by omega) rfl rfl
      | some b =>
        rw [hy] at he
        have hx : crossX l i = some b := he
        rw [hx] at hq
        obtain ⟨oo, ho⟩ : ∃ oo, Ev (fun k => impl_crossing.l1 k l (i : Int) l (l.length : Int) (i : Int) l[i] (l[i].length : Int) ((j + 1 : Nat) : Int)) oo := by
          have key : ∀ d2 (j2 : Nat), j2 ≤ l.length → l.length - j2 = d2 → ∃ oo, Ev (fun k => impl_crossing.l1 k l (i : Int) l (l.length : Int) (i : Int) l[i] (l[i].length : Int) (j2 : Int)) oo := by
            intro d2
            induction d2 with
            | zero =>
              intro j2 hj2 hd2
              have : j2 = l.length := by omega
              subst this
              refine ⟨o, ev_succ ?_⟩
              simp only [impl_crossing.l1, hlen, if_neg (Int.lt_irrefl _), wrap64_nat_succ (show i < 9223372036854775807 by omega)]
              exact hnext
            | succ d2 ih2 =>
              intro j2 hj2 hd2
              obtain ⟨oo, ho⟩ := ih2 (j2 + 1) (by omega) (by omega)
              have g1 : (j2 : Int) < (l[i].length : Int) := by omega
              have g2 : (0 : Int) ≤ (j2 : Int) := by omega
              by_cases hz2 : at_ l i j2 = 0
              · refine ⟨oo, ev_succ ?_⟩
                simp only [impl_crossing.l1, if_pos g1, if_pos g2, at_row l i j2 hi, if_pos hz2, wrap64_nat_succ (show j2 < 9223372036854775807 by omega)]
                exact ho
              · refine ⟨match crossY l i j2 with | some (a, b, c, d) => (a, b, c, d, true) | none => oo, ev_succ ?_⟩
                simp only [impl_crossing.l1, if_pos g1, if_pos g2, at_row l i j2 hi, if_neg hz2, wrap64_nat_succ (show i < 9223372036854775807 by omega)]
                exact cross_l2 l hl hr i j2 hi (by omega) l (l.length : Int) (i : Int) l[i] (l[i].length : Int) oo _ ho rfl _ (i + 1) (by omega) (by omega) rfl rfl
          exact key _ (j + 1) (by omega) rfl
        exact cross_l2 l hl hr i j hi (by omega) l (l.length : Int) (i : Int) l[i] (l[i].length : Int) oo q ho (by rw [hy]; exact hq) _ (i + 1) (by omega) (by omega) rfl rfl
theorem cross_l0 : ∀ d (i : Nat), i ≤ l.length → l.length - i = d → Ev (fun k => impl_crossing.l0 k l l (l.length : Int) (i : Int)) (crossR (rowFrom (fun i => crossX l i) l.length i)) := by
  intro d
  induction d with
  | zero =>
    intro i hi hd
    have : i = l.length := by omega
    subst this
    refine ev_succ ?_
    simp only [impl_crossing.l0, if_neg (Int.lt_irrefl _)]
    rw [rowFrom_end _ _ _ (Nat.le_refl _)]
    exact ev_now _ _ rfl
  | succ d ih =>
    intro i hi hd
    have hlt : i < l.length := by omega
    have h1 : (i : Int) < (l.length : Int) := by omega
    have h2 : (0 : Int) ≤ (i : Int) := by omega
    refine ev_succ ?_
    simp only [impl_crossing.l0, if_pos h1, if_pos h2, rdL_nat l i hlt]
    refine cross_l1 l hl hr i hlt _ _ (ih (i + 1) (by omega) (by omega)) ?_ _ 0 (by omega) rfl rfl
    rw [rowFrom_step _ _ _ (by omega)]
    cases crossX l i with
    | none => rfl
    | some b => rfl
theorem crossing_ev : Ev (fun k => impl_crossing.f k l) (crossR (crossOf l)) := by
  unfold impl_crossing.f
  have := cross_l0 l hl hr l.length 0 (by omega) (by omega)
  simpa [crossOf] using this
end
/-! ### the reference -/
def mkC (i j : Int) : S70 := ⟨i, j⟩
def cellsRow (l : List (List Int)) (i : Nat) (js : List Nat) : List S70 := (js.filter fun j => decide (at_ l i j > 0)).map fun (j : Nat) => mkC (i : Int) (j : Int)
def cellsOf (l : List (List Int)) (is : List Nat) : List S70 := is.flatMap fun i => cellsRow l i (List.range l.length)
theorem cellsRow_length (l : List (List Int)) (i : Nat) (js : List Nat) : (cellsRow l i js).length ≤ js.length := by
  unfold cellsRow
  rw [List.length_map]
  exact List.length_filter_le _ _
theorem cellsRow_snoc (l : List (List Int)) (i j : Nat) : cellsRow l i (List.range (j + 1)) = cellsRow l i (List.range j) ++ (if at_ l i j > 0 then [mkC (i : Int) (j : Int)] else []) := by
  unfold cellsRow
  rw [List.range_succ, List.filter_append, List.map_append]
  by_cases h : at_ l i j > 0 <;> simp [h]
theorem cellsOf_snoc (l : List (List Int)) (i : Nat) : cellsOf l (List.range (i + 1)) = cellsOf l (List.range i) ++ cellsRow l i (List.range l.length) := by
  unfold cellsOf
  rw [List.range_succ, List.flatMap_append]
  simp
theorem cellsOf_length (l : List (List Int)) (i : Nat) : (cellsOf l (List.range i)).length ≤ i * l.length := by
  induction i with
  | zero => simp [cellsOf]
  | succ i ih =>
    rw [cellsOf_snoc, List.length_append, Nat.succ_mul]
    have := cellsRow_length l i (List.range l.length)
    rw [List.length_range] at this
    omega
theorem cells_l1 (l : List (List Int)) (hl : l.length ≤ 8) (hr : ∀ r ∈ l, r.length = l.length) (i : Nat) (hi : i < l.length) (q : List S70) (hnext : Ev (fun k => spec_plCells.l0 k (cellsOf l (List.range (i + 1))) l (l.length : Int) ((i + 1 : Nat) : Int)) q) :
    ∀ d (j : Nat), j ≤ l.length → l.length - j = d → Ev (fun k => spec_plCells.l1 k (cellsOf l (List.range i) ++ cellsRow l i (List.range j)) (i : Int) l (l.length : Int) (i : Int) l[i] (l[i].length : Int) (j : Int)) q := by
  have hlen := row_len l hr i hi
  intro d
  induction d with
  | zero =>
    intro j hj hd
    have : j = l.length := by omega
    subst this
    refine ev_succ ?_
    simp only [spec_plCells.l1, hlen, if_neg (Int.lt_irrefl _), wrap64_nat_succ (show i < 9223372036854775807 by omega)]
    rw [← cellsOf_snoc]
    exact hnext
  | succ d ih =>
    intro j hj hd
    have h1 : (j : Int) < (l[i].length : Int) := by omega
    have h2 : (0 : Int) ≤ (j : Int) := by omega
    have h3 := cellsOf_length l i
    have h4 := cellsRow_length l i (List.range j)
    have h5 : i * l.length ≤ 8 * 8 := Nat.mul_le_mul (by omega) hl
    rw [List.length_range] at h4
    have h6 : (cellsOf l (List.range i) ++ cellsRow l i (List.range j)).length < 8796093022208 := by rw [List.length_append]; omega
    refine ev_succ ?_
    simp only [spec_plCells.l1, if_pos h1, if_pos h2, at_row l i j hi, if_pos h6, wrap64_nat_succ (show j < 9223372036854775807 by omega)]
    have h7 := ih (j + 1) (by omega) (by omega)
    rw [cellsRow_snoc] at h7
    by_cases hp : at_ l i j > 0
    · rw [if_pos hp, ← List.append_assoc] at h7
      simp only [if_pos hp]
      exact h7
    · rw [if_neg hp, List.append_nil] at h7
      simp only [if_neg hp]
      exact h7
theorem cells_l0 (l : List (List Int)) (hl : l.length ≤ 8) (hr : ∀ r ∈ l, r.length = l.length) : ∀ d (i : Nat), i ≤ l.length → l.length - i = d → Ev (fun k => spec_plCells.l0 k (cellsOf l (List.range i)) l (l.length : Int) (i : Int)) (cellsOf l (List.range l.length)) := by
  intro d
  induction d with
  | zero =>
    intro i hi hd
    have : i = l.length := by omega
    subst this
    refine ev_succ ?_
    simp only [spec_plCells.l0, if_neg (Int.lt_irrefl _)]
    exact ev_now _ _ rfl
  | succ d ih =>
    intro i hi hd
    have hlt : i < l.length := by omega
    have h1 : (i : Int) < (l.length : Int) := by omega
    have h2 : (0 : Int) ≤ (i : Int) := by omega
    refine ev_succ ?_
    simp only [spec_plCells.l0, if_pos h1, if_pos h2, rdL_nat l i hlt]
    have := cells_l1 l hl hr i hlt _ (ih (i + 1) (by omega) (by omega)) l.length 0 (by omega) (by omega)
    simpa [cellsRow] using this
theorem plCells_ev (l : List (List Int)) (hl : l.length ≤ 8) (hr : ∀ r ∈ l, r.length = l.length) : Ev (fun k => spec_plCells.f k l) (cellsOf l (List.range l.length)) := by
  unfold spec_plCells.f
  have := cells_l0 l hl hr l.length 0 (by omega) (by omega)
  simpa [cellsOf] using this
theorem rdT_nat (l : List S70) (i : Nat) (h : i < l.length) : rd_T70 l (i : Int) = l[i] := by unfold rd_T70; simp [h]
/-- The answer of the inner search: the first cell below and to the left. -/
def specY (cs : List S70) (a b : Int) : Option S70 := cs.findSome? fun y => if a < y.f0 then (if b > y.f1 then some y else none) else none
def specX (cs xs : List S70) : Option (S70 × S70) := xs.findSome? fun x => (specY cs x.f0 x.f1).map fun y => (x, y)
theorem spec_l1 (cs : List S70) (hc : cs.length ≤ 1048576) (i : Nat) (hi : i < cs.length) (a b : Int) (o q : List S70 × Bool) (hnext : Ev (fun k => spec_plCrossing.l0 k cs cs (cs.length : Int) ((i + 1 : Nat) : Int)) o)
    (hq : q = match specY cs a b with | some y => ([mkC a b, y], true) | none => o) : ∀ d (j : Nat), j ≤ cs.length → cs.length - j = d → specY cs a b = specY (cs.drop j) a b →
    Ev (fun k => spec_plCrossing.l1 k cs cs (cs.length : Int) (i : Int) cs (cs.length : Int) (j : Int) a b) q := by
  intro d
  induction d with
  | zero =>
    intro j hj hd he
    have : j = cs.length := by omega
    subst this
    rw [List.drop_length] at he
    rw [he] at hq
    subst hq
    refine ev_succ ?_
    simp only [spec_plCrossing.l1, if_neg (Int.lt_irrefl _), wrap64_nat_succ (show i < 9223372036854775807 by omega)]
    exact hnext
  | succ d ih =>
    intro j hj hd he
    have hlt : j < cs.length := by omega
    have h1 : (j : Int) < (cs.length : Int) := by omega
    have h2 : (0 : Int) ≤ (j : Int) := by omega
    rw [List.drop_eq_getElem_cons hlt] at he
    unfold specY at he
    rw [List.findSome?_cons] at he
    refine ev_succ ?_
    simp only [spec_plCrossing.l1, if_pos h1, if_pos h2, rdT_nat cs j hlt, wrap64_nat_succ (show j < 9223372036854775807 by omega)]
    by_cases h3 : a < cs[j].f0
    · by_cases h4 : b > cs[j].f1
      · simp only [if_pos h3, if_pos h4] at he ⊢
        have : specY cs a b = some cs[j] := he
        rw [this] at hq
        exact ev_now _ _ hq.symm
      · simp only [if_pos h3, if_neg h4] at he ⊢
        exact ih (j + 1) (by omega) (by omega) he
    · simp only [if_neg h3] at he ⊢
      exact ih (j + 1) (by omega) (by omega) he
theorem spec_l0 (cs : List S70) (hc : cs.length ≤ 1048576) : ∀ d (i : Nat), i ≤ cs.length → cs.length - i = d →
    Ev (fun k => spec_plCrossing.l0 k cs cs (cs.length : Int) (i : Int)) (match specX cs (cs.drop i) with | some (x, y) => ([x, y], true) | none => ([], false)) := by
  intro d
  induction d with
  | zero =>
    intro i hi hd
    have : i = cs.length := by omega
    subst this
    refine ev_succ ?_
    simp only [spec_plCrossing.l0, if_neg (Int.lt_irrefl _), List.drop_length]
    exact ev_now _ _ rfl
  | succ d ih =>
    intro i hi hd
    have hlt : i < cs.length := by omega
    have h1 : (i : Int) < (cs.length : Int) := by omega
    have h2 : (0 : Int) ≤ (i : Int) := by omega
    refine ev_succ ?_
    simp only [spec_plCrossing.l0, if_pos h1, if_pos h2, rdT_nat cs i hlt]
    refine spec_l1 cs hc i hlt _ _ _ _ (ih (i + 1) (by omega) (by omega)) ?_ _ 0 (by omega) rfl rfl
    rw [List.drop_eq_getElem_cons hlt]
    unfold specX
    rw [List.findSome?_cons]
    cases specY cs cs[i].f0 cs[i].f1 with
    | none => rfl
    | some y => rfl
theorem findSome_filter_map {β γ : Type} (p : Nat → Bool) (g : Nat → β) (f : β → Option γ) : ∀ js : List Nat, ((js.filter p).map g).findSome? f = js.findSome? fun j => if p j then f (g j) else none
  | [] => rfl
  | j :: t => by
    rw [List.filter_cons, List.findSome?_cons]
    cases h : p j with
    | true => simp only [if_true, List.map_cons, List.findSome?_cons, findSome_filter_map p g f t]
    | false => simp [findSome_filter_map p g f t]
theorem findSome_flatMap {α β γ : Type} (g : α → List β) (f : β → Option γ) : ∀ l : List α, (l.flatMap g).findSome? f = l.findSome? fun a => (g a).findSome? f
  | [] => rfl
  | a :: t => by
    rw [List.flatMap_cons, List.findSome?_append, List.findSome?_cons, findSome_flatMap g f t]
    cases (g a).findSome? f <;> rfl
theorem specY_cross (l : List (List Int)) (i j : Nat) (hi : i < l.length) (hj : j < l.length) : specY (cellsOf l (List.range l.length)) (i : Int) (j : Int) = (crossY l i j).map fun x => mkC x.2.2.1 x.2.2.2 := by
  unfold specY cellsOf
  rw [findSome_flatMap]
  have hrow : ∀ r : Nat, (cellsRow l r (List.range l.length)).findSome? (fun y => if (i : Int) < y.f0 then (if (j : Int) > y.f1 then some y else none) else none) = if i < r then (rowFrom (fun c => if at_ l r c > 0 then some ((i : Int), (j : Int), (r : Int), (c : Int)) else none) j 0).map fun x => mkC x.2.2.1 x.2.2.2 else none := by
    intro r
    unfold cellsRow
    rw [findSome_filter_map]
    by_cases hir : i < r
    · rw [if_pos hir]
      have e1 : (fun (c : Nat) => if decide (at_ l r c > 0) = true then (if (i : Int) < (mkC (r : Int) (c : Int)).f0 then (if (j : Int) > (mkC (r : Int) (c : Int)).f1 then some (mkC (r : Int) (c : Int)) else none) else none) else none) = fun c => if c < j then (if at_ l r c > 0 then some (mkC (r : Int) (c : Int)) else none) else none := by
        funext c
        have : (i : Int) < (mkC (r : Int) (c : Int)).f0 := by show (i : Int) < (r : Int); omega
        rw [if_pos this]
        by_cases hc : c < j
        · have : (j : Int) > (mkC (r : Int) (c : Int)).f1 := by show (j : Int) > (c : Int); omega
          rw [if_pos this, if_pos hc]
          by_cases hp : at_ l r c > 0 <;> simp [hp]
        · have : ¬ (j : Int) > (mkC (r : Int) (c : Int)).f1 := by show ¬ (j : Int) > (c : Int); omega
          rw [if_neg this, if_neg hc]
          split <;> rfl
      rw [e1]
      have e2 : (List.range l.length).findSome? (fun c => if c < j then (if at_ l r c > 0 then some (mkC (r : Int) (c : Int)) else none) else none) = rowFrom (fun c => if c < j then (if at_ l r c > 0 then some (mkC (r : Int) (c : Int)) else none) else none) l.length 0 := by unfold rowFrom; rw [List.drop_zero]
      rw [e2, rowFrom_cut _ l.length j (by omega) (fun q h1 _ => if_neg (by omega)) j 0 (by omega) (by omega)]
      rw [rowFrom_congr _ (fun c => if at_ l r c > 0 then some (mkC (r : Int) (c : Int)) else none) j 0 (fun q hq => if_pos hq)]
      unfold rowFrom
      rw [List.drop_zero, List.map_findSome?]
      congr 1
      funext c
      by_cases hp : at_ l r c > 0 <;> simp [hp]
    · rw [if_neg hir]
      rw [List.findSome?_eq_none_iff]
      intro c _
      have : ¬ (i : Int) < (mkC (r : Int) (c : Int)).f0 := by show ¬ (i : Int) < (r : Int); omega
      rw [if_neg this]
      split <;> rfl
  have e3 : (List.range l.length).findSome? (fun r => (cellsRow l r (List.range l.length)).findSome? (fun y => if (i : Int) < y.f0 then (if (j : Int) > y.f1 then some y else none) else none)) = rowFrom (fun r => if i < r then (rowFrom (fun c => if at_ l r c > 0 then some ((i : Int), (j : Int), (r : Int), (c : Int)) else none) j 0).map fun x => mkC x.2.2.1 x.2.2.2 else none) l.length 0 := by
    unfold rowFrom
    rw [List.drop_zero]
    congr 1
    funext r
    exact hrow r
  rw [e3, rowFrom_skip _ l.length (i + 1) (by omega) (fun q hq => if_neg (by omega)) _ 0 rfl (by omega)]
  unfold crossY
  rw [show rowFrom (fun r => if i < r then (rowFrom (fun c => if at_ l r c > 0 then some ((i : Int), (j : Int), (r : Int), (c : Int)) else none) j 0).map (fun x => mkC x.2.2.1 x.2.2.2) else none) l.length (i + 1) = rowFrom (fun r => (rowFrom (fun c => if at_ l r c > 0 then some ((i : Int), (j : Int), (r : Int), (c : Int)) else none) j 0).map (fun x => mkC x.2.2.1 x.2.2.2)) l.length (i + 1) from ?_]
  · conv => rhs; unfold rowFrom
    rw [List.map_findSome?]
    rfl
  · unfold rowFrom
    have : ∀ q ∈ (List.range l.length).drop (i + 1), i < q := by
      intro q hq
      obtain ⟨n, hn, rfl⟩ := List.getElem_of_mem hq
      rw [List.getElem_drop, List.getElem_range]
      omega
    generalize (List.range l.length).drop (i + 1) = L at this
    induction L with
    | nil => rfl
    | cons a t ih =>
      rw [List.findSome?_cons, List.findSome?_cons, if_pos (this a (List.mem_cons_self ..)), ih (fun q hq => this q (List.mem_cons_of_mem _ hq))]
theorem crossY_at (l : List (List Int)) (i j : Nat) (x : Int × Int × Int × Int) (h : crossY l i j = some x) : x.1 = (i : Int) ∧ x.2.1 = (j : Int) := by
  unfold crossY rowFrom at h
  obtain ⟨r, _, hr⟩ := List.exists_of_findSome?_eq_some h
  obtain ⟨c, _, hc⟩ := List.exists_of_findSome?_eq_some hr
  split at hc
  · injection hc with hc; subst hc; exact ⟨rfl, rfl⟩
  · cases hc
theorem specX_cross (l : List (List Int)) (hz : ∀ i j, i < l.length → j < l.length → 0 ≤ at_ l i j) : specX (cellsOf l (List.range l.length)) (cellsOf l (List.range l.length)) = (crossOf l).map fun x => (mkC x.1 x.2.1, mkC x.2.2.1 x.2.2.2) := by
  conv => lhs; unfold specX; rhs; unfold cellsOf
  rw [findSome_flatMap]
  unfold crossOf
  rw [show rowFrom (fun i => crossX l i) l.length 0 = (List.range l.length).findSome? (fun i => crossX l i) from by unfold rowFrom; rw [List.drop_zero], List.map_findSome?]
  have key : ∀ i ∈ List.range l.length, (cellsRow l i (List.range l.length)).findSome? (fun x => (specY (cellsOf l (List.range l.length)) x.f0 x.f1).map fun y => (x, y)) = ((fun o => Option.map (fun x : Int × Int × Int × Int => (mkC x.1 x.2.1, mkC x.2.2.1 x.2.2.2)) o) ∘ fun i => crossX l i) i := by
    intro i hi
    have hi' := List.mem_range.1 hi
    show _ = Option.map _ (crossX l i)
    unfold crossX cellsRow
    rw [findSome_filter_map]
    unfold rowFrom
    rw [List.drop_zero, List.map_findSome?]
    have key2 : ∀ L : List Nat, (∀ j ∈ L, j < l.length) → (L.findSome? fun j => if decide (at_ l i j > 0) = true then Option.map (fun y => (mkC (i : Int) (j : Int), y)) (specY (cellsOf l (List.range l.length)) (mkC (i : Int) (j : Int)).f0 (mkC (i : Int) (j : Int)).f1) else none) = L.findSome? ((fun o => Option.map (fun x : Int × Int × Int × Int => (mkC x.1 x.2.1, mkC x.2.2.1 x.2.2.2)) o) ∘ fun j => if at_ l i j = 0 then none else crossY l i j) := by
      intro L hL
      induction L with
      | nil => rfl
      | cons j t ih =>
        rw [List.findSome?_cons, List.findSome?_cons, ih (fun q hq => hL q (List.mem_cons_of_mem _ hq))]
        have hj := hL j (List.mem_cons_self ..)
        have h0 := hz i j hi' hj
        congr 1
        show (if decide (at_ l i j > 0) = true then _ else none) = Option.map _ (if at_ l i j = 0 then none else crossY l i j)
        by_cases hp : at_ l i j = 0
        · rw [if_pos hp, if_neg (by simp [hp])]; rfl
        · rw [if_neg hp, if_pos (by simp; omega)]
          show Option.map _ (specY (cellsOf l (List.range l.length)) (i : Int) (j : Int)) = _
          rw [specY_cross l i j hi' hj]
          cases hy : crossY l i j with
          | none => rfl
          | some x =>
            obtain ⟨h1, h2⟩ := crossY_at l i j x hy
            simp only [Option.map_some]
            rw [h1, h2]
    exact key2 _ (fun j hj => List.mem_range.1 hj)
  have key3 : ∀ L : List Nat, (∀ i ∈ L, i ∈ List.range l.length) → (L.findSome? fun a => (cellsRow l a (List.range l.length)).findSome? (fun x => (specY (cellsOf l (List.range l.length)) x.f0 x.f1).map fun y => (x, y))) = L.findSome? ((fun o => Option.map (fun x : Int × Int × Int × Int => (mkC x.1 x.2.1, mkC x.2.2.1 x.2.2.2)) o) ∘ fun i => crossX l i) := by
    intro L hL
    induction L with
    | nil => rfl
    | cons a t ih => rw [List.findSome?_cons, List.findSome?_cons, ih (fun q hq => hL q (List.mem_cons_of_mem _ hq)), key a (hL a (List.mem_cons_self ..))]
  exact key3 _ (fun _ h => h)
/-- What both programs answer. -/
def crossA (l : List (List Int)) : List S70 × Bool := match crossOf l with | some x => ([mkC x.1 x.2.1, mkC x.2.2.1 x.2.2.2], true) | none => ([], false)
theorem planAt (l : List (List Int)) (h : planB l = true) (i j : Nat) (hi : i < l.length) (hj : j < l.length) : 0 ≤ at_ l i j ∧ at_ l i j ≤ 60 := by
  obtain ⟨_, _, h3⟩ := (planB_iff l).1 h
  have hr := (h3 l[i] (List.getElem_mem hi))
  have hj' : j < l[i].length := by rw [hr.1]; exact hj
  have : at_ l i j = l[i][j] := by simp [at_, hi, hj']
  rw [this]
  exact hr.2 _ (List.getElem_mem _)
theorem specCrossing_ev (l : List (List Int)) (h : planB l = true) : Ev (fun k => spec_plCrossing.f k l) (crossA l) := by
  obtain ⟨h1, h2, h3⟩ := (planB_iff l).1 h
  have hr : ∀ r ∈ l, r.length = l.length := fun r hr => (h3 r hr).1
  unfold spec_plCrossing.f
  refine Ev.bind (plCells_ev l h2 hr) ?_
  have hc := cellsOf_length l l.length
  have h5 : l.length * l.length ≤ 8 * 8 := Nat.mul_le_mul h2 h2
  have := spec_l0 (cellsOf l (List.range l.length)) (by omega) _ 0 (by omega) rfl
  rw [List.drop_zero, specX_cross l (fun i j hi hj => (planAt l h i j hi hj).1)] at this
  unfold crossA
  cases hx : crossOf l with
  | none => rw [hx] at this; simpa using this
  | some x => rw [hx] at this; simpa using this
theorem specCrossingOf_ev (l : List (List Int)) : Ev (fun k => spec_CrossingOf.f k l) (if planB l = true then crossA l else ([], false)) := by
  unfold spec_CrossingOf.f
  refine Ev.bind (plGood_ev l) ?_
  cases h : planB l with
  | false => exact ev_now _ _ rfl
  | true =>
    simp only [if_true]
    exact Ev.bind (specCrossing_ev l h) (ev_now _ _ rfl)
theorem implCrossingOf_ev (l : List (List Int)) : Ev (fun k => impl_CrossingOf.f k l) (if planB l = true then crossA l else ([], false)) := by
  unfold impl_CrossingOf.f
  rw [isPlan_f]
  simp only [Option.bind_some]
  cases h : planB l with
  | false => exact ev_now _ _ rfl
  | true =>
    obtain ⟨h1, h2, h3⟩ := (planB_iff l).1 h
    simp only [if_true]
    refine Ev.bind (crossing_ev l h2 (fun r hr => (h3 r hr).1)) ?_
    unfold crossA
    cases crossOf l with
    | none => exact ev_now _ _ rfl
    | some x => exact ev_now _ _ rfl
end Go.Proofs.Ytllnieknogficaa.K
namespace Go.Proofs.Ytllnieknogficaa.K
open Go.RowKit Go.Proofs.YtllnieknogficaaW.PrintWords Go.Proofs.YtllnieknogficaaW.PrintLast Go.Proofs.YtllnieknogficaaW.PrintMore
attribute [local go_sem] max2_int min2_int max_two min_two max_three min_three max_four min_four   -- for this text's walks alone
set_option linter.unusedVariables false
set_option linter.unusedSimpArgs false

/-! ### impl_rowSums: function 161 -/
def impl_rowSums.l0 : Nat → List Int → List (List Int) → Int → Int → Option (List Int)
  | 0, _, _, _, _ => none
  | k + 1, x3, x7, x8, x9 => if x9 < x8 then (if 0 ≤ x9 then (if x9 < (x7.length : Int) then ((impl_total.f k (rd_L2 x7 x9)).bind fun t904 => (if x3.length < 17592186044416 then (impl_rowSums.l0 k (x3 ++ [t904]) x7 x8 (wrap64 (x9 + 1))) else (none))) else (none)) else (none)) else (some x3)
def impl_rowSums.f (k : Nat) (l0 : List (List Int)) : Option (List Int) := impl_rowSums.l0 k (([] : List Int)) l0 (l0.length : Int) 0
theorem impl_rowSums.mono_l : ∀ k, (∀ y0 y1 y2 y3, LeO (impl_rowSums.l0 k y0 y1 y2 y3) (impl_rowSums.l0 (k + 1) y0 y1 y2 y3))
  | 0 => fun _ _ _ _ r h => by simp [impl_rowSums.l0] at h
  | k + 1 => by
    have ih0 := impl_rowSums.mono_l k
    · intro y0 y1 y2 y3
      unfold impl_rowSums.l0
      repeat' first
      | (with_reducible exact ih0 _ _ _ _)
      | (with_reducible exact impl_total.mono _ _)
      | (with_reducible exact LeO.refl _)
      | (with_reducible exact LeO.none _)
      | (with_reducible refine LeO.ite ?_ ?_)
      | (with_reducible refine LeO.bind ?_ (fun _ => ?_))
      | exact ih0 _ _ _ _
      | exact impl_total.mono _ _
      | exact LeO.none _
      | refine LeO.ite ?_ ?_
      | refine LeO.bind ?_ (fun _ => ?_)
theorem impl_rowSums.mono : ∀ a0 k, LeO (impl_rowSums.f k a0) (impl_rowSums.f (k + 1) a0) := by
  intro a0 k
  have ih0 := impl_rowSums.mono_l k
  unfold impl_rowSums.f
  repeat' first
      | (with_reducible exact ih0 _ _ _ _)
      | (with_reducible exact impl_total.mono _ _)
      | (with_reducible exact LeO.refl _)
      | (with_reducible exact LeO.none _)
      | (with_reducible refine LeO.ite ?_ ?_)
      | (with_reducible refine LeO.bind ?_ (fun _ => ?_))
      | exact ih0 _ _ _ _
      | exact impl_total.mono _ _
      | exact LeO.none _
      | refine LeO.ite ?_ ?_
      | refine LeO.bind ?_ (fun _ => ?_)
set_option maxHeartbeats 8000000 in
set_option maxRecDepth 100000 in
theorem impl_rowSums.calls (k : Nat) (A0 : Option Addr) (c0 : Nat) (l0 : List (List Int)) (r : List Int) (w : World) (hr0 : Kd.C (Kd.slice 3 (Kd.int .i64)) w A0 l0.length l0) (hc0 : l0.length ≤ c0) (h : impl_rowSums.f k l0 = some r) :
    Calls Try.prog 161 #[.slice A0 l0.length c0] w fun e w' => ∃ v0_ : Value, e = .returned (v0_) ∧ Kd.R (Kd.int .i64) 3 w' w.heap.size (fun _ => True) v0_ r ∧ Below w.heap.size w w' := by
  have HR0 := Aside0.mk hr0
  have HC0 := Aside0.mk hc0
  clear hr0 hc0
  have HB := Aside0.mk (Below.refl w.heap.size w)
  have H : (impl_rowSums.l0 k (([] : List Int)) l0 (l0.length : Int) 0) = some r := h
  clear h
  obtain ⟨y900, hy900⟩ : ∃ y_ : List Int, y_ = (([] : List Int)) := ⟨_, rfl⟩
  replace H : (impl_rowSums.l0 k y900 l0 (l0.length : Int) 0) = some r := by first | (rw [hy900]; with_reducible exact H) | (have H2_ := (Option.bind_some _ _).symm.trans H; rw [hy900]; with_reducible exact H2_) | (have H2_ := (Option.bind_some _ _).symm.trans H; with_reducible exact H2_) | with_reducible exact H | (rw [hy900]; exact H) | exact H
  have Ny900 := Aside0.mk hy900
  clear hy900
  have H' := Aside0.mk H
  clear H
  go_enter Try.func161, Try.ntmps161
  go_wp2_with (first | ((with_reducible refine gate_dst (N := 6) rfl ?_); refine Kd.R_lit (Kd.int .i64) _ 3 ?hg (N := 6) ?hd (xs := ([] : List Int)) (inner := []) (ok := fun _ => True) (okp := fun _ => True) ?hr ?hp (fun _ hk => hk) trivial (Below.refl _ _) (Nat.le_refl _) (by simp) ?_; (case hd => rfl); (case hg => rfl); (case hr => first | (go_simp; done) | (go_simp; rfl)); (case hp => exact (Reps.none _ _)); intro v901 w2 ho3 hb hg_ hnew_; clear hg_ hnew_; (first | rw [← Ny900.out] at ho3 | (simp only [Int.reduceToNat] at ho3; rw [← Ny900.out] at ho3)); have n0_ := Aside0.mk (Kd.R_lower ho3 (below_size (by repeat (first | (with_reducible first | exact HB.out | apply below_alloc | apply pw_below_drewN | apply below_drew1) | exact HB.out)))); have n1_ := Aside0.mk (below_step (by repeat (first | (with_reducible first | exact HB.out | apply below_alloc | apply pw_below_drewN | apply below_drew1) | exact HB.out)) hb); clear HB; have HO902 := n0_; have HB := n1_; clear n0_ n1_; clear hb ho3))
  go_loopg [3, 9] k (fun kq v3 v9 w' => ∃ (x3_1 : List Int) (x9_1 : Int), v9 = .int .i64 x9_1 ∧ Aside0 (impl_rowSums.l0 kq x3_1 l0 (l0.length : Int) x9_1 = some r) ∧ Aside0 (kq ≤ k) ∧ Aside0 (Kd.R (Kd.int .i64) 3 w' w.heap.size (fun _ => True) v3 x3_1) ∧ Aside0 (Below w.heap.size w w'))
  case atStart => exact ⟨(y900), (0), (by first | rfl | (simp; done) | (simp [*]; done)), H', ⟨Nat.le_refl _⟩, ⟨by (with_reducible repeat (first | apply Kd.R_alloc | apply Kd.R_drewN | apply Kd.R_drew)); exact HO902.out⟩, ⟨by repeat (first | (with_reducible first | exact HB.out | apply below_alloc | apply pw_below_drewN | apply below_drew1) | exact HB.out)⟩⟩
  case round =>
    clear H'
    try clear c1
    try clear p2
    obtain ⟨x3_1, x9_1, rfl, HA, HK1, HO_3, HB⟩ := hrel
    cases gk with
    | zero => exact absurd HA.out (by simp [impl_rowSums.l0])
    | succ k1 =>
      have H := HA.out
      clear HA
      simp only [impl_rowSums.l0] at H
      by_cases c4 : x9_1 < (l0.length : Int)
      · rw [if_pos c4] at H
        have c4b0 : decide (x9_1 < (l0.length : Int)) = true := decide_eq_true c4
        clear c4
        by_cases c5 : 0 ≤ x9_1
        · rw [if_pos c5] at H
          have c5b0 : decide (0 ≤ x9_1) = true := decide_eq_true c5
          clear c5
          by_cases c6 : x9_1 < (l0.length : Int)
          · rw [if_pos c6] at H
            have c6b0 : decide (x9_1 < (l0.length : Int)) = true := decide_eq_true c6
            clear c6
            replace H := Option.bind_eq_some_iff.mp H
            obtain ⟨t904, A70, H⟩ := H
            replace H : (if x3_1.length < 17592186044416 then (impl_rowSums.l0 k1 (x3_1 ++ [t904]) l0 (l0.length : Int) (wrap64 (x9_1 + 1))) else (none)) = some r := H
            have A7 := Aside0.mk A70
            clear A70
            by_cases c8 : x3_1.length < 17592186044416
            · rw [if_pos c8] at H
              have LMc8 := Aside0.mk c8
              clear c8
              obtain ⟨y905, hy905⟩ : ∃ y_ : List Int, y_ = (x3_1 ++ [t904]) := ⟨_, rfl⟩
              replace H : (impl_rowSums.l0 k1 y905 l0 (l0.length : Int) (wrap64 (x9_1 + 1))) = some r := by first | (rw [hy905]; with_reducible exact H) | (have H2_ := (Option.bind_some _ _).symm.trans H; rw [hy905]; with_reducible exact H2_) | (have H2_ := (Option.bind_some _ _).symm.trans H; with_reducible exact H2_) | with_reducible exact H | (rw [hy905]; exact H) | exact H
              have Ny905 := Aside0.mk hy905
              clear hy905
              have H' := Aside0.mk H
              clear H
              have p903 : 0 ≤ (x9_1 : Int) := of_decide_eq_true (by first | (with_reducible assumption) | assumption)
              have q903 : x9_1 < (l0.length : Int) := of_decide_eq_true (by first | (with_reducible assumption) | assumption)
              obtain ⟨ad903, A903_0, c903_0, e903, hx903_0, hl903_0, hi903_0⟩ := at_L2 HR0.out x9_1 p903 q903
              cases e903
              replace hx903_0 := (HB.out.cell (World.block_lt_of_cell? w _ hx903_0)).trans hx903_0
              have HR903_0 := Aside0.mk hi903_0
              have HC903_0 := Aside0.mk hl903_0
              clear hi903_0 hl903_0
              replace p903 := eq_true p903
              replace q903 := eq_true q903
              go_wp2_with (first | ((with_reducible refine gate_callee (f := 187) rfl ?_); refine goesL_ (some 15) rfl rfl Try.func187 (by kernel_rfl) rfl #[.slice A903_0 (rd_L2 l0 x9_1).length c903_0] rfl (by (try simp only [List.map_toArray, List.map_cons, List.map_nil]); first | done | rfl | (simp only [List.length_drop, List.length_take]; rfl)) ?_; (with_reducible refine (impl_total.calls k1 _ _ (rd_L2 l0 x9_1) t904 _ ?side1 ?side2 A7.out).mono ?_); (case side1 => repeat (first | exact (Kd.C_below HR903_0.out HB.out) | (with_reducible refine Kd.C_alloc ?_ _) | (with_reducible refine Kd.C_drewN ?_ _) | (with_reducible refine Kd.C_drew ?_))); (case side2 => exact HC903_0.out); rintro e w' ⟨rfl, ⟨nd, rfl⟩⟩; refine ⟨_, rfl, ?_⟩) | ((with_reducible refine gate_builtin (b := .append) (xs := #[.tmp 13, .tmp 16]) rfl ?_); at_builtin; refine Kd.R_append (Kd.int .i64) (w0 := w) w.heap.size rfl (.tmp 13) (.tmp 16) 24 3 (.int .i64 0) 8 rfl Try.underlying24 info3 rfl (by decide) (by omega) u3 x3_1 t904 [.int .i64 t904] (fun _ => True) (fun _ => False) rfl rfl ?aP (fun _ hk => hk.elim) ?aF ?aO ?aB ?aS ?aL ?_; (case aP => exact rfl); (case aB => exact (by repeat (first | (with_reducible first | exact HB.out | apply below_alloc | apply pw_below_drewN | apply below_drew1) | exact HB.out))); (case aF => exact (fun _ _ => trivial)); (case aO => exact (by (with_reducible repeat (first | apply Kd.R_alloc | apply Kd.R_drewN | apply Kd.R_drew)); exact HO_3.out)); (case aS => exact (below_size (by repeat (first | (with_reducible first | exact HB.out | apply below_alloc | apply pw_below_drewN | apply below_drew1) | exact HB.out)))); (case aL => have := LMc8.out; omega); intro v906 w9 ho hb hg hat; rw [← Ny905.out] at ho; have n0_ := Aside0.mk (hb); have n1_ := Aside0.mk (ho); clear HB; clear HO_3; have HB := n0_; have HO907 := n1_; clear n0_ n1_; clear ho hb hg hat))
              go_roundg k1
              case measure => have := HK1.out; omega
              case rel => exact ⟨(y905), (wrap64 (x9_1 + 1)), (by first | rfl | (simp; done) | (simp [*]; done)), H', ⟨by have := HK1.out; omega⟩, ⟨by (with_reducible repeat (first | apply Kd.R_alloc | apply Kd.R_drewN | apply Kd.R_drew)); exact HO907.out⟩, ⟨by repeat (first | (with_reducible first | exact HB.out | apply below_alloc | apply pw_below_drewN | apply below_drew1) | exact HB.out)⟩⟩
            · rw [if_neg c8] at H
              exact absurd H (by simp)
          · rw [if_neg c6] at H
            exact absurd H (by simp)
        · rw [if_neg c5] at H
          exact absurd H (by simp)
      · rw [if_neg c4] at H
        have c4b0 : decide (x9_1 < (l0.length : Int)) = false := decide_eq_false c4
        clear c4
        obtain rfl := Option.some.inj H
        go_wp2
        go_ret
        exact ⟨_, by first | rfl | (simp [errW_none, errW_some] <;> rfl) | (simp [*, errW_none, errW_some] <;> rfl), by (with_reducible repeat (first | apply Kd.R_alloc | apply Kd.R_drewN | apply Kd.R_drew)); exact HO_3.out, by repeat (first | (with_reducible first | exact HB.out | apply below_alloc | apply pw_below_drewN | apply below_drew1) | exact HB.out)⟩

end Go.Proofs.Ytllnieknogficaa.K
namespace Go.Proofs.Ytllnieknogficaa.K
open Go.RowKit Go.Proofs.YtllnieknogficaaW.PrintWords Go.Proofs.YtllnieknogficaaW.PrintLast Go.Proofs.YtllnieknogficaaW.PrintMore
attribute [local go_sem] max2_int min2_int max_two min_two max_three min_three max_four min_four   -- for this text's walks alone
set_option linter.unusedVariables false
set_option linter.unusedSimpArgs false

/-! ### spec_plSums: function 157 -/
mutual
def spec_plSums.l0 : Nat → List Int → List Int → List (List Int) → Int → Int → Option (List Int × List Int)
  | 0, _, _, _, _, _ => none
  | k + 1, x4, x5, x13, x14, x15 => if x15 < x14 then (if 0 ≤ x15 then (if x15 < (x13.length : Int) then ((spec_liSum.f k (rd_L2 x13 x15)).bind fun t891 => (if x4.length < 17592186044416 then (spec_plSums.l1 k (x4 ++ [t891]) x5 x13 x14 x15 (rd_L2 x13 x15) ((rd_L2 x13 x15).length : Int) 0) else (none))) else (none)) else (none)) else (some (x4, x5))
def spec_plSums.l1 : Nat → List Int → List Int → List (List Int) → Int → Int → List Int → Int → Int → Option (List Int × List Int)
  | 0, _, _, _, _, _, _, _, _ => none
  | k + 1, x4, x5, x13, x14, x15, x24, x25, x26 => if x26 < x25 then (if 0 ≤ x26 then (if x26 < (x24.length : Int) then (if x26 < (x5.length : Int) then (spec_plSums.l1 k x4 (x5.set (x26 : Int).toNat (wrap64 ((rd x5 x26) + (rd x24 x26)))) x13 x14 x15 x24 x25 (wrap64 (x26 + 1))) else (none)) else (none)) else (none)) else (spec_plSums.l0 k x4 x5 x13 x14 (wrap64 (x15 + 1)))
end
def spec_plSums.f (k : Nat) (l0 : List (List Int)) : Option (List Int × List Int) := if 0 ≤ (l0.length : Int) then (if ((l0.length : Int) : Int).toNat ≤ 35184372088832 then (spec_plSums.l0 k ([] : List Int) (List.replicate ((l0.length : Int) : Int).toNat 0) l0 (l0.length : Int) 0) else (none)) else (none)
theorem spec_plSums.mono_l : ∀ k, (∀ y0 y1 y2 y3 y4, LeO (spec_plSums.l0 k y0 y1 y2 y3 y4) (spec_plSums.l0 (k + 1) y0 y1 y2 y3 y4)) ∧ (∀ y0 y1 y2 y3 y4 y5 y6 y7, LeO (spec_plSums.l1 k y0 y1 y2 y3 y4 y5 y6 y7) (spec_plSums.l1 (k + 1) y0 y1 y2 y3 y4 y5 y6 y7))
  | 0 => ⟨fun _ _ _ _ _ r h => by simp [spec_plSums.l0] at h, fun _ _ _ _ _ _ _ _ r h => by simp [spec_plSums.l1] at h⟩
  | k + 1 => by
    obtain ⟨ih0, ih1⟩ := spec_plSums.mono_l k
    refine ⟨?_, ?_⟩
    · intro y0 y1 y2 y3 y4
      unfold spec_plSums.l0
      repeat' first
      | (with_reducible exact ih0 _ _ _ _ _)
      | (with_reducible exact ih1 _ _ _ _ _ _ _ _)
      | (with_reducible exact spec_liSum.mono _ _)
      | (with_reducible exact LeO.refl _)
      | (with_reducible exact LeO.none _)
      | (with_reducible refine LeO.ite ?_ ?_)
      | (with_reducible refine LeO.bind ?_ (fun _ => ?_))
      | exact ih0 _ _ _ _ _
      | exact ih1 _ _ _ _ _ _ _ _
      | exact spec_liSum.mono _ _
      | exact LeO.none _
      | refine LeO.ite ?_ ?_
      | refine LeO.bind ?_ (fun _ => ?_)
    · intro y0 y1 y2 y3 y4 y5 y6 y7
      unfold spec_plSums.l1
      repeat' first
      | (with_reducible exact ih0 _ _ _ _ _)
      | (with_reducible exact ih1 _ _ _ _ _ _ _ _)
      | (with_reducible exact spec_liSum.mono _ _)
      | (with_reducible exact LeO.refl _)
      | (with_reducible exact LeO.none _)
      | (with_reducible refine LeO.ite ?_ ?_)
      | (with_reducible refine LeO.bind ?_ (fun _ => ?_))
      | exact ih0 _ _ _ _ _
      | exact ih1 _ _ _ _ _ _ _ _
      | exact spec_liSum.mono _ _
      | exact LeO.none _
      | refine LeO.ite ?_ ?_
      | refine LeO.bind ?_ (fun _ => ?_)
theorem spec_plSums.mono : ∀ a0 k, LeO (spec_plSums.f k a0) (spec_plSums.f (k + 1) a0) := by
  intro a0 k
  obtain ⟨ih0, ih1⟩ := spec_plSums.mono_l k
  unfold spec_plSums.f
  repeat' first
      | (with_reducible exact ih0 _ _ _ _ _)
      | (with_reducible exact ih1 _ _ _ _ _ _ _ _)
      | (with_reducible exact spec_liSum.mono _ _)
      | (with_reducible exact LeO.refl _)
      | (with_reducible exact LeO.none _)
      | (with_reducible refine LeO.ite ?_ ?_)
      | (with_reducible refine LeO.bind ?_ (fun _ => ?_))
      | exact ih0 _ _ _ _ _
      | exact ih1 _ _ _ _ _ _ _ _
      | exact spec_liSum.mono _ _
      | exact LeO.none _
      | refine LeO.ite ?_ ?_
      | refine LeO.bind ?_ (fun _ => ?_)
set_option maxHeartbeats 8000000 in
set_option maxRecDepth 100000 in
theorem spec_plSums.calls (k : Nat) (A0 : Option Addr) (c0 : Nat) (l0 : List (List Int)) (r1 : List Int) (r2 : List Int) (w : World) (hr0 : Kd.C (Kd.slice 3 (Kd.int .i64)) w A0 l0.length l0) (hc0 : l0.length ≤ c0) (h : spec_plSums.f k l0 = some (r1, r2)) :
    Calls Try.prog 157 #[.slice A0 l0.length c0] w fun e w' => ∃ v0_ v1_ : Value, e = .returned (.tuple #[v0_, v1_]) ∧ Kd.R (Kd.int .i64) 3 w' w.heap.size (fun k_ => some k_ ≠ (v1_ : Value).ownBlock) v0_ r1 ∧ Kd.R (Kd.int .i64) 3 w' w.heap.size (fun k_ => some k_ ≠ (v0_ : Value).ownBlock) v1_ r2 ∧ Below w.heap.size w w' := by
  have HR0 := Aside0.mk hr0
  have HC0 := Aside0.mk hc0
  clear hr0 hc0
  have HB := Aside0.mk (Below.refl w.heap.size w)
  have H : (if 0 ≤ (l0.length : Int) then (if ((l0.length : Int) : Int).toNat ≤ 35184372088832 then (spec_plSums.l0 k ([] : List Int) (List.replicate ((l0.length : Int) : Int).toNat 0) l0 (l0.length : Int) 0) else (none)) else (none)) = some (r1, r2) := h
  clear h
  by_cases c2 : 0 ≤ (l0.length : Int)
  · rw [if_pos c2] at H
    have c2b0 := eq_true c2
    have c2b1 : decide (0 ≤ (l0.length : Int)) = true := decide_eq_true c2
    clear c2
    by_cases c3 : ((l0.length : Int) : Int).toNat ≤ 35184372088832
    · rw [if_pos c3] at H
      have c3b0 := eq_true c3
      have c3b1 : decide (((l0.length : Int) : Int).toNat ≤ 35184372088832) = true := decide_eq_true c3
      clear c3
      obtain ⟨y887, hy887⟩ : ∃ y_ : List Int, y_ = (List.replicate ((l0.length : Int) : Int).toNat 0) := ⟨_, rfl⟩
      replace H : (spec_plSums.l0 k ([] : List Int) y887 l0 (l0.length : Int) 0) = some (r1, r2) := by first | (rw [hy887]; with_reducible exact H) | (have H2_ := (Option.bind_some _ _).symm.trans H; rw [hy887]; with_reducible exact H2_) | (have H2_ := (Option.bind_some _ _).symm.trans H; with_reducible exact H2_) | with_reducible exact H | (rw [hy887]; exact H) | exact H
      have Ny887 := Aside0.mk hy887
      clear hy887
      have H' := Aside0.mk H
      clear H
      go_enter Try.func157, Try.ntmps157
      go_wp2_with (first | ((with_reducible refine gate_dst (N := 12) rfl ?_); refine Kd.R_make (Kd.int .i64) _ 3 rfl (N := 12) rfl 24 _ _ rfl (l0.length : Int) rfl rfl Try.underlying24 (.int .i64 0) 8 info3 rfl (by decide) (by omega) 0 (ok := fun _ => True) (okp := fun _ => True) rfl (fun _ hk => hk) trivial (of_decide_eq_true (by first | (with_reducible assumption) | assumption)) (Nat.le_trans (Nat.mul_le_mul_right _ (of_decide_eq_true (by first | (with_reducible assumption) | assumption) : (l0.length : Int).toNat ≤ 35184372088832)) (by omega)) (Below.refl _ _) (Nat.le_refl _) ?_; intro v888 w4 ho5 hb hg_ hnew_; clear hg_ hnew_; (first | rw [← Ny887.out] at ho5 | (simp only [Int.reduceToNat] at ho5; rw [← Ny887.out] at ho5)); have n0_ := Aside0.mk (Kd.R_lower ho5 (below_size (by repeat (first | (with_reducible first | exact HB.out | apply below_alloc | apply pw_below_drewN | apply below_drew1) | exact HB.out)))); have n1_ := Aside0.mk (below_step (by repeat (first | (with_reducible first | exact HB.out | apply below_alloc | apply pw_below_drewN | apply below_drew1) | exact HB.out)) hb); clear HB; have HO889 := n0_; have HB := n1_; clear n0_ n1_; clear hb ho5))
      go_loopg [4, 15] k (fun kq v4 v15 w' => ∃ (x4_1 : List Int) (x5_1 : List Int) (x15_1 : Int), v15 = .int .i64 x15_1 ∧ Aside0 (spec_plSums.l0 kq x4_1 x5_1 l0 (l0.length : Int) x15_1 = some (r1, r2)) ∧ Aside0 (kq ≤ k) ∧ Aside0 (Kd.R (Kd.int .i64) 3 w' w.heap.size (fun k_ => some k_ ≠ (v888 : Value).ownBlock) v4 x4_1) ∧ Aside0 (Kd.R (Kd.int .i64) 3 w' w.heap.size (fun k_ => some k_ ≠ (v4 : Value).ownBlock) v888 x5_1) ∧ Aside0 (Below w.heap.size w w'))
      case atStart => exact ⟨(([] : List Int)), (y887), (0), (by first | rfl | (simp; done) | (simp [*]; done)), H', ⟨Nat.le_refl _⟩, ⟨by first | exact Kd.R_nil _ _ _ _ _ | exact Kd.N_nil _ _ _ _ _ | exact Kd.V_nil _ _ _ _ _ | exact Kd.Q_nil _ _ _ _ _ | exact Kd.S_nil _ _ _ _ _⟩, ⟨by (with_reducible repeat (first | apply Kd.R_alloc | apply Kd.R_drewN | apply Kd.R_drew)); exact Kd.R_mono HO889.out (fun _ hk => (by simp [Value.ownBlock]))⟩, ⟨by repeat (first | (with_reducible first | exact HB.out | apply below_alloc | apply pw_below_drewN | apply below_drew1) | exact HB.out)⟩⟩
      case round =>
        clear H'
        try clear c1
        try clear c2
        try clear c2b0
        try clear c2b1
        try clear p2
        try clear c3
        try clear c3b0
        try clear c3b1
        obtain ⟨x4_1, x5_1, x15_1, rfl, HA, HK1, HO_4, HO_5, HB⟩ := hrel
        cases gk with
        | zero => exact absurd HA.out (by simp [spec_plSums.l0])
        | succ k1 =>
          have H := HA.out
          clear HA
          simp only [spec_plSums.l0] at H
          by_cases c6 : x15_1 < (l0.length : Int)
          · rw [if_pos c6] at H
            have c6b0 : decide (x15_1 < (l0.length : Int)) = true := decide_eq_true c6
            clear c6
            by_cases c7 : 0 ≤ x15_1
            · rw [if_pos c7] at H
              have c7b0 : decide (0 ≤ x15_1) = true := decide_eq_true c7
              clear c7
              by_cases c8 : x15_1 < (l0.length : Int)
              · rw [if_pos c8] at H
                have c8b0 : decide (x15_1 < (l0.length : Int)) = true := decide_eq_true c8
                clear c8
                replace H := Option.bind_eq_some_iff.mp H
                obtain ⟨t891, A90, H⟩ := H
                replace H : (if x4_1.length < 17592186044416 then (spec_plSums.l1 k1 (x4_1 ++ [t891]) x5_1 l0 (l0.length : Int) x15_1 (rd_L2 l0 x15_1) ((rd_L2 l0 x15_1).length : Int) 0) else (none)) = some (r1, r2) := H
                have A9 := Aside0.mk A90
                clear A90
                by_cases c10 : x4_1.length < 17592186044416
                · rw [if_pos c10] at H
                  have LMc10 := Aside0.mk c10
                  clear c10
                  obtain ⟨y892, hy892⟩ : ∃ y_ : List Int, y_ = (x4_1 ++ [t891]) := ⟨_, rfl⟩
                  replace H : (spec_plSums.l1 k1 y892 x5_1 l0 (l0.length : Int) x15_1 (rd_L2 l0 x15_1) ((rd_L2 l0 x15_1).length : Int) 0) = some (r1, r2) := by first | (rw [hy892]; with_reducible exact H) | (have H2_ := (Option.bind_some _ _).symm.trans H; rw [hy892]; with_reducible exact H2_) | (have H2_ := (Option.bind_some _ _).symm.trans H; with_reducible exact H2_) | with_reducible exact H | (rw [hy892]; exact H) | exact H
                  have Ny892 := Aside0.mk hy892
                  clear hy892
                  have H' := Aside0.mk H
                  clear H
                  have p890 : 0 ≤ (x15_1 : Int) := of_decide_eq_true (by first | (with_reducible assumption) | assumption)
                  have q890 : x15_1 < (l0.length : Int) := of_decide_eq_true (by first | (with_reducible assumption) | assumption)
                  obtain ⟨ad890, A890_0, c890_0, e890, hx890_0, hl890_0, hi890_0⟩ := at_L2 HR0.out x15_1 p890 q890
                  cases e890
                  replace hx890_0 := (HB.out.cell (World.block_lt_of_cell? w _ hx890_0)).trans hx890_0
                  have HR890_0 := Aside0.mk hi890_0
                  have HC890_0 := Aside0.mk hl890_0
                  clear hi890_0 hl890_0
                  replace p890 := eq_true p890
                  replace q890 := eq_true q890
                  go_wp2_with (first | ((with_reducible refine gate_callee (f := 215) rfl ?_); refine goesL_ (some 21) rfl rfl Try.func215 (by kernel_rfl) rfl #[.slice A890_0 (rd_L2 l0 x15_1).length c890_0] rfl (by (try simp only [List.map_toArray, List.map_cons, List.map_nil]); first | done | rfl | (simp only [List.length_drop, List.length_take]; rfl)) ?_; (with_reducible refine (spec_liSum.calls k1 _ _ (rd_L2 l0 x15_1) t891 _ ?side1 ?side2 A9.out).mono ?_); (case side1 => repeat (first | exact (Kd.C_below HR890_0.out HB.out) | (with_reducible refine Kd.C_alloc ?_ _) | (with_reducible refine Kd.C_drewN ?_ _) | (with_reducible refine Kd.C_drew ?_))); (case side2 => exact HC890_0.out); rintro e w' ⟨rfl, ⟨nd, rfl⟩⟩; refine ⟨_, rfl, ?_⟩) | ((with_reducible refine gate_builtin (b := .append) (xs := #[.tmp 19, .tmp 22]) rfl ?_); at_builtin; refine Kd.R_append (Kd.int .i64) (w0 := w) w.heap.size rfl (.tmp 19) (.tmp 22) 24 3 (.int .i64 0) 8 rfl Try.underlying24 info3 rfl (by decide) (by omega) u4 x4_1 t891 [.int .i64 t891] (fun k_ => some k_ ≠ (v888 : Value).ownBlock) (fun _ => False) rfl rfl ?aP (fun _ hk => hk.elim) ?aF ?aO ?aB ?aS ?aL ?_; (case aP => exact rfl); (case aB => exact (by repeat (first | (with_reducible first | exact HB.out | apply below_alloc | apply pw_below_drewN | apply below_drew1) | exact HB.out))); (case aF => exact (fun k_ hk => Kd.fresh' (Kd.R_lt (by (with_reducible repeat (first | apply Kd.R_alloc | apply Kd.R_drewN | apply Kd.R_drew)); exact HO_5.out)) k_ hk)); (case aO => exact (by (with_reducible repeat (first | apply Kd.R_alloc | apply Kd.R_drewN | apply Kd.R_drew)); exact HO_4.out)); (case aS => exact (below_size (by repeat (first | (with_reducible first | exact HB.out | apply below_alloc | apply pw_below_drewN | apply below_drew1) | exact HB.out)))); (case aL => have := LMc10.out; omega); intro v893 w11 ho hb hg hat; rw [← Ny892.out] at ho; have n0_ := Aside0.mk (Kd.R_after (ok := (fun _ => True)) (by (with_reducible repeat (first | apply Kd.R_alloc | apply Kd.R_drewN | apply Kd.R_drew)); exact Kd.R_mono HO_5.out (fun _ hk => ⟨trivial, hk⟩)) hg hat); have n1_ := Aside0.mk (hb); have n2_ := Aside0.mk (ho); clear HO_5; clear HB; clear HO_4; have HO_5 := n0_; have HB := n1_; have HO894 := n2_; clear n0_ n1_ n2_; clear ho hb hg hat))
                  go_loopg [26] k1 (fun kq v26 w' => ∃ (x5_2 : List Int) (x26_2 : Int), v26 = .int .i64 x26_2 ∧ Aside0 (spec_plSums.l1 kq y892 x5_2 l0 (l0.length : Int) x15_1 (rd_L2 l0 x15_1) ((rd_L2 l0 x15_1).length : Int) x26_2 = some (r1, r2)) ∧ Aside0 (kq ≤ k1) ∧ Aside0 (Kd.R (Kd.int .i64) 3 w' w.heap.size (fun k_ => some k_ ≠ (v888 : Value).ownBlock) v893 y892) ∧ Aside0 (Kd.R (Kd.int .i64) 3 w' w.heap.size (fun k_ => some k_ ≠ (v893 : Value).ownBlock) v888 x5_2) ∧ Aside0 (Below w.heap.size w w'))
                  case atStart => exact ⟨(x5_1), (0), (by first | rfl | (simp; done) | (simp [*]; done)), H', ⟨Nat.le_refl _⟩, ⟨by (with_reducible repeat (first | apply Kd.R_alloc | apply Kd.R_drewN | apply Kd.R_drew)); exact HO894.out⟩, ⟨by (with_reducible repeat (first | apply Kd.R_alloc | apply Kd.R_drewN | apply Kd.R_drew)); exact Kd.R_mono HO_5.out (fun _ hk => hk.2)⟩, ⟨by repeat (first | (with_reducible first | exact HB.out | apply below_alloc | apply pw_below_drewN | apply below_drew1) | exact HB.out)⟩⟩
                  case round =>
                    clear H'
                    try clear c1
                    try clear c2
                    try clear c2b0
                    try clear c2b1
                    try clear p2
                    try clear c3
                    try clear c3b0
                    try clear c3b1
                    try clear c6
                    try clear c6b0
                    try clear c7
                    try clear c7b0
                    try clear c8
                    try clear c8b0
                    try clear p8
                    try clear q8
                    try clear hx8
                    try clear c10
                    try clear hx890_0
                    try clear p2
                    try clear p890
                    try clear q890
                    obtain ⟨x5_2, x26_2, rfl, HA, HK2, HO_4, HO_5, HB⟩ := hrel
                    cases gk with
                    | zero => exact absurd HA.out (by simp [spec_plSums.l1])
                    | succ k2 =>
                      have H := HA.out
                      clear HA
                      simp only [spec_plSums.l1] at H
                      by_cases c12 : x26_2 < ((rd_L2 l0 x15_1).length : Int)
                      · rw [if_pos c12] at H
                        have c12b0 : decide (x26_2 < ((rd_L2 l0 x15_1).length : Int)) = true := decide_eq_true c12
                        clear c12
                        by_cases c13 : 0 ≤ x26_2
                        · rw [if_pos c13] at H
                          have c13b0 : decide (0 ≤ x26_2) = true := decide_eq_true c13
                          clear c13
                          by_cases c14 : x26_2 < ((rd_L2 l0 x15_1).length : Int)
                          · rw [if_pos c14] at H
                            have c14b0 : decide (x26_2 < ((rd_L2 l0 x15_1).length : Int)) = true := decide_eq_true c14
                            clear c14
                            by_cases c15 : x26_2 < (x5_2.length : Int)
                            · rw [if_pos c15] at H
                              have c15b0 : decide (x26_2 < (x5_2.length : Int)) = true := decide_eq_true c15
                              clear c15
                              obtain ⟨y897, hy897⟩ : ∃ y_ : List Int, y_ = (x5_2.set (x26_2 : Int).toNat (wrap64 ((rd x5_2 x26_2) + (rd (rd_L2 l0 x15_1) x26_2)))) := ⟨_, rfl⟩
                              replace H : (spec_plSums.l1 k2 y892 y897 l0 (l0.length : Int) x15_1 (rd_L2 l0 x15_1) ((rd_L2 l0 x15_1).length : Int) (wrap64 (x26_2 + 1))) = some (r1, r2) := by first | (rw [hy897]; with_reducible exact H) | (have H2_ := (Option.bind_some _ _).symm.trans H; rw [hy897]; with_reducible exact H2_) | (have H2_ := (Option.bind_some _ _).symm.trans H; with_reducible exact H2_) | with_reducible exact H | (rw [hy897]; exact H) | exact H
                              have Ny897 := Aside0.mk hy897
                              clear hy897
                              have H' := Aside0.mk H
                              clear H
                              have p895 : 0 ≤ (x26_2 : Int) := of_decide_eq_true (by first | (with_reducible assumption) | assumption)
                              have q895 : x26_2 < ((rd_L2 l0 x15_1).length : Int) := of_decide_eq_true (by first | (with_reducible assumption) | assumption)
                              obtain ⟨ad895, e895, hx895_0⟩ := Kd.at_int HR890_0.out x26_2 p895 q895
                              cases e895
                              replace hx895_0 := (HB.out.cell (World.block_lt_of_cell? w _ hx895_0)).trans hx895_0
                              replace p895 := eq_true p895
                              replace q895 := eq_true q895
                              obtain ⟨Ao17, co17, eo17⟩ := Kd.R_slice HO_5.out
                              subst eo17
                              have p896 : 0 ≤ (x26_2 : Int) := of_decide_eq_true (by first | (with_reducible assumption) | assumption)
                              have q896 : x26_2 < (x5_2.length : Int) := of_decide_eq_true (by first | (with_reducible assumption) | assumption)
                              obtain ⟨ad896, e896, hx896_0⟩ := Kd.at_int (Kd.R_reads' HO_5.out).2.2 x26_2 p896 q896
                              cases e896
                              replace p896 := eq_true p896
                              replace q896 := eq_true q896
                              have p16 : 0 ≤ (x26_2 : Int) := of_decide_eq_true (by first | (with_reducible assumption) | assumption)
                              have q16 : (x26_2 : Int) < ((x5_2.length : Int) : Int) := of_decide_eq_true (by first | (with_reducible assumption) | assumption)
                              obtain ⟨go16, co16, eo16, gb16, gl16, cl16, HG16⟩ := Kd.R_form HO_5.out (by omega)
                              (first | cases eo16 | (injection eo16 with ea_ en_ ec_; (first | subst ea_ | (injection ea_ with ea_; subst ea_)); subst ec_; clear en_))
                              have GB16 := Aside0.mk gb16
                              have GG16 := Aside0.mk HG16
                              clear gb16 gl16 HG16
                              (first | simp only [add_plain] at hx896_0 | skip)
                              obtain ⟨hx16_0, hf16_0⟩ := Kd.R_celln 0 HO_5.out (x26_2 : Int) p16 q16
                              replace p16 := eq_true p16
                              replace q16 := eq_true q16
                              have HP18 := Kd.R_putg HO_5.out (x26_2 : Int) (wrap64 ((rd x5_2 x26_2) + (rd (rd_L2 l0 x15_1) x26_2)))
                              go_wp2_with (first | ((with_reducible refine gate_store (t := 3) (p := 37) rfl ?_); refine store_event (t := 3) (p := 37) (v := ?vo_w19) (w1 := (wr.setCell ⟨go16, (x26_2 : Int).toNat, none⟩ (.int .i64 (wrap64 ((rd x5_2 x26_2) + (rd (rd_L2 l0 x15_1) x26_2)))))) ?hg ?ho ?hn ?hr ?_; (case ho => rfl); (case hg => rfl); (case hn => rfl); (case hr => first | (go_simp; done) | (go_simp; rfl)); intro w19 hw; have hg : wr.grownBy w19 (some go16) := (by rw [hw]; exact HP18.2); have hp_ : Kd.R (Kd.int .i64) 3 w19 w.heap.size (fun k_ => some k_ ≠ (v893 : Value).ownBlock) (.slice (some ⟨go16, 0, none⟩) x5_2.length co17) y897 := (by rw [hw, Ny897.out]; exact HP18.1); clear HP18; have n0_ := Aside0.mk (Kd.R_after (v := (.slice (some ⟨go16, 0, none⟩) x5_2.length co17)) (v1 := (.slice (some ⟨go16, 0, none⟩) x5_2.length co17)) (ok := (fun _ => True)) (by (with_reducible repeat (first | apply Kd.R_alloc | apply Kd.R_drewN | apply Kd.R_drew)); exact Kd.R_mono HO_4.out (fun _ hk => ⟨trivial, hk⟩)) hg (.inl rfl)); have n1_ := Aside0.mk (hp_); have n2_ := Aside0.mk ((by rw [hw]; exact below_set (HB.out) GB16.out : Below w.heap.size w w19)); clear HO_4; clear HO_5; clear HB; have HO_4 := n0_; have HO_5 := n1_; have HB := n2_; clear n0_ n1_ n2_; clear hg hw hp_))
                              go_roundg k2
                              case measure => have := HK1.out; have := HK2.out; omega
                              case rel => exact ⟨(y897), (wrap64 (x26_2 + 1)), (by first | rfl | (simp; done) | (simp [*]; done)), H', ⟨by have := HK1.out; have := HK2.out; omega⟩, ⟨by (with_reducible repeat (first | apply Kd.R_alloc | apply Kd.R_drewN | apply Kd.R_drew)); exact Kd.R_mono HO_4.out (fun _ hk => hk.2)⟩, ⟨by (with_reducible repeat (first | apply Kd.R_alloc | apply Kd.R_drewN | apply Kd.R_drew)); exact HO_5.out⟩, ⟨by repeat (first | (with_reducible first | exact HB.out | apply below_alloc | apply pw_below_drewN | apply below_drew1) | exact HB.out)⟩⟩
                            · rw [if_neg c15] at H
                              exact absurd H (by simp)
                          · rw [if_neg c14] at H
                            exact absurd H (by simp)
                        · rw [if_neg c13] at H
                          exact absurd H (by simp)
                      · rw [if_neg c12] at H
                        have c12b0 : decide (x26_2 < ((rd_L2 l0 x15_1).length : Int)) = false := decide_eq_false c12
                        clear c12
                        have H' := Aside0.mk H
                        clear H
                        go_wp2
                        go_roundg k2
                        case measure => have := HK1.out; have := HK2.out; omega
                        case rel => exact ⟨(y892), (x5_2), (wrap64 (x15_1 + 1)), (by first | rfl | (simp; done) | (simp [*]; done)), H', ⟨by have := HK1.out; have := HK2.out; omega⟩, ⟨by (with_reducible repeat (first | apply Kd.R_alloc | apply Kd.R_drewN | apply Kd.R_drew)); exact HO_4.out⟩, ⟨by (with_reducible repeat (first | apply Kd.R_alloc | apply Kd.R_drewN | apply Kd.R_drew)); exact HO_5.out⟩, ⟨by repeat (first | (with_reducible first | exact HB.out | apply below_alloc | apply pw_below_drewN | apply below_drew1) | exact HB.out)⟩⟩
                · rw [if_neg c10] at H
                  exact absurd H (by simp)
              · rw [if_neg c8] at H
                exact absurd H (by simp)
            · rw [if_neg c7] at H
              exact absurd H (by simp)
          · rw [if_neg c6] at H
            have c6b0 : decide (x15_1 < (l0.length : Int)) = false := decide_eq_false c6
            clear c6
            simp only [Option.some.injEq, Prod.mk.injEq] at H
            obtain ⟨rfl, rfl⟩ := H
            go_wp2
            go_ret2
            exact ⟨_, _, by first | rfl | (simp [errW_none, errW_some] <;> rfl) | (simp [*, errW_none, errW_some] <;> rfl), by (with_reducible repeat (first | apply Kd.R_alloc | apply Kd.R_drewN | apply Kd.R_drew)); exact HO_4.out, by (with_reducible repeat (first | apply Kd.R_alloc | apply Kd.R_drewN | apply Kd.R_drew)); exact HO_5.out, by repeat (first | (with_reducible first | exact HB.out | apply below_alloc | apply pw_below_drewN | apply below_drew1) | exact HB.out)⟩
    · rw [if_neg c3] at H
      exact absurd H (by simp)
  · rw [if_neg c2] at H
    exact absurd H (by simp)

end Go.Proofs.Ytllnieknogficaa.K
namespace Go.Proofs.Ytllnieknogficaa.K
open Go.RowKit Go.Proofs.YtllnieknogficaaW.PrintWords Go.Proofs.YtllnieknogficaaW.PrintLast Go.Proofs.YtllnieknogficaaW.PrintMore
attribute [local go_sem] max2_int min2_int max_two min_two max_three min_three max_four min_four   -- for this text's walks alone
set_option linter.unusedVariables false
set_option linter.unusedSimpArgs false

/-! ### slices_Equal_int_int: function 160 -/
def slices_Equal_int_int.l0 : Nat → List Int → List Int → Int → Int → Option (Bool)
  | 0, _, _, _, _ => none
  | k + 1, x0, x1, x12, x13 => if x13 < x12 then (if 0 ≤ x13 then (if x13 < (x0.length : Int) then (if x13 < (x1.length : Int) then (if (rd x0 x13) = (rd x1 x13) then (slices_Equal_int_int.l0 k x0 x1 x12 (wrap64 (x13 + 1))) else (some false)) else (none)) else (none)) else (none)) else (some true)
def slices_Equal_int_int.f (k : Nat) (l0 : List Int) (l1 : List Int) : Option (Bool) := if (l0.length : Int) = (l1.length : Int) then (slices_Equal_int_int.l0 k l0 l1 (l0.length : Int) 0) else (some false)
theorem slices_Equal_int_int.mono_l : ∀ k, (∀ y0 y1 y2 y3, LeO (slices_Equal_int_int.l0 k y0 y1 y2 y3) (slices_Equal_int_int.l0 (k + 1) y0 y1 y2 y3))
  | 0 => fun _ _ _ _ r h => by simp [slices_Equal_int_int.l0] at h
  | k + 1 => by
    have ih0 := slices_Equal_int_int.mono_l k
    · intro y0 y1 y2 y3
      unfold slices_Equal_int_int.l0
      repeat' first
      | (with_reducible exact ih0 _ _ _ _)
      | (with_reducible exact LeO.refl _)
      | (with_reducible exact LeO.none _)
      | (with_reducible refine LeO.ite ?_ ?_)
      | (with_reducible refine LeO.bind ?_ (fun _ => ?_))
      | exact ih0 _ _ _ _
      | exact LeO.none _
      | refine LeO.ite ?_ ?_
      | refine LeO.bind ?_ (fun _ => ?_)
theorem slices_Equal_int_int.mono : ∀ a0 a1 k, LeO (slices_Equal_int_int.f k a0 a1) (slices_Equal_int_int.f (k + 1) a0 a1) := by
  intro a0 a1 k
  have ih0 := slices_Equal_int_int.mono_l k
  unfold slices_Equal_int_int.f
  repeat' first
      | (with_reducible exact ih0 _ _ _ _)
      | (with_reducible exact LeO.refl _)
      | (with_reducible exact LeO.none _)
      | (with_reducible refine LeO.ite ?_ ?_)
      | (with_reducible refine LeO.bind ?_ (fun _ => ?_))
      | exact ih0 _ _ _ _
      | exact LeO.none _
      | refine LeO.ite ?_ ?_
      | refine LeO.bind ?_ (fun _ => ?_)
set_option maxHeartbeats 8000000 in
set_option maxRecDepth 100000 in
theorem slices_Equal_int_int.calls (k : Nat) (A0 : Option Addr) (c0 : Nat) (l0 : List Int) (A1 : Option Addr) (c1 : Nat) (l1 : List Int) (r : Bool) (w : World) (hr0 : Kd.C (Kd.int .i64) w A0 l0.length l0) (hc0 : l0.length ≤ c0) (hr1 : Kd.C (Kd.int .i64) w A1 l1.length l1) (hc1 : l1.length ≤ c1) (h : slices_Equal_int_int.f k l0 l1 = some r) :
    Calls Try.prog 160 #[.slice A0 l0.length c0, .slice A1 l1.length c1] w fun e w' => e = .returned (.bool r) ∧ Drawn0 w w' := by
  have HR0 := Aside0.mk hr0
  have HC0 := Aside0.mk hc0
  clear hr0 hc0
  have HR1 := Aside0.mk hr1
  have HC1 := Aside0.mk hc1
  clear hr1 hc1
  have H : (if (l0.length : Int) = (l1.length : Int) then (slices_Equal_int_int.l0 k l0 l1 (l0.length : Int) 0) else (some false)) = some r := h
  clear h
  by_cases c3 : (l0.length : Int) = (l1.length : Int)
  · rw [if_pos c3] at H
    have c3b0 : ((l0.length : Int) == (l1.length : Int)) = true := beq_iff_eq.mpr c3
    have c3b1 : ((l0.length : Int) != (l1.length : Int)) = false := bne_eq_false_iff_eq.mpr c3
    have c3b2 : (l0.length == l1.length) = true := by first | simpa using c3 | (simp at c3 ⊢; omega)
    clear c3
    have H' := Aside0.mk H
    clear H
    go_enter Try.func160, Try.ntmps160
    go_wp2
    repeat (go_quiet (fail); try go_wp2)
    go_loopg [13] k (fun kq v13 w' => ∃ (x13_1 : Int), v13 = .int .i64 x13_1 ∧ Aside0 (slices_Equal_int_int.l0 kq l0 l1 (l0.length : Int) x13_1 = some r) ∧ Aside0 (kq ≤ k) ∧ Drawn0 w w')
    case atStart => exact ⟨(0), (by first | rfl | (simp; done) | (simp [*]; done)), H', ⟨Nat.le_refl _⟩, by repeat (first | exact Drawn0.refl _ | apply Drawn0.step)⟩
    case round =>
      clear H'
      try clear c1
      try clear p2
      try clear c3
      try clear c3b0
      try clear c3b1
      try clear c3b2
      obtain ⟨x13_1, rfl, HA, HK1, ⟨m1, rfl⟩⟩ := hrel
      cases gk with
      | zero => exact absurd HA.out (by simp [slices_Equal_int_int.l0])
      | succ k1 =>
        have H := HA.out
        clear HA
        simp only [slices_Equal_int_int.l0] at H
        by_cases c4 : x13_1 < (l0.length : Int)
        · rw [if_pos c4] at H
          have c4b0 : decide (x13_1 < (l0.length : Int)) = true := decide_eq_true c4
          clear c4
          by_cases c5 : 0 ≤ x13_1
          · rw [if_pos c5] at H
            have c5b0 : decide (0 ≤ x13_1) = true := decide_eq_true c5
            clear c5
            by_cases c6 : x13_1 < (l0.length : Int)
            · rw [if_pos c6] at H
              have c6b0 : decide (x13_1 < (l0.length : Int)) = true := decide_eq_true c6
              clear c6
              by_cases c7 : x13_1 < (l1.length : Int)
              · rw [if_pos c7] at H
                have c7b0 : decide (x13_1 < (l1.length : Int)) = true := decide_eq_true c7
                clear c7
                by_cases c8 : (rd l0 x13_1) = (rd l1 x13_1)
                · rw [if_pos c8] at H
                  have c8b0 : ((rd l0 x13_1) == (rd l1 x13_1)) = true := beq_iff_eq.mpr c8
                  have c8b1 : ((rd l0 x13_1) != (rd l1 x13_1)) = false := bne_eq_false_iff_eq.mpr c8
                  clear c8
                  have H' := Aside0.mk H
                  clear H
                  have p296 : 0 ≤ (x13_1 : Int) := of_decide_eq_true (by first | (with_reducible assumption) | assumption)
                  have q296 : x13_1 < (l0.length : Int) := of_decide_eq_true (by first | (with_reducible assumption) | assumption)
                  obtain ⟨ad296, e296, hx296_0⟩ := Kd.at_int HR0.out x13_1 p296 q296
                  cases e296
                  replace p296 := eq_true p296
                  replace q296 := eq_true q296
                  have p297 : 0 ≤ (x13_1 : Int) := of_decide_eq_true (by first | (with_reducible assumption) | assumption)
                  have q297 : x13_1 < (l1.length : Int) := of_decide_eq_true (by first | (with_reducible assumption) | assumption)
                  obtain ⟨ad297, e297, hx297_0⟩ := Kd.at_int HR1.out x13_1 p297 q297
                  cases e297
                  replace p297 := eq_true p297
                  replace q297 := eq_true q297
                  go_wp2
                  repeat (go_quiet (fail); try go_wp2)
                  go_roundg k1
                  case measure => have := HK1.out; omega
                  case rel => exact ⟨(wrap64 (x13_1 + 1)), (by first | rfl | (simp; done) | (simp [*]; done)), H', ⟨by have := HK1.out; omega⟩, by repeat (first | exact Drawn0.refl _ | apply Drawn0.step)⟩
                · rw [if_neg c8] at H
                  have c8b0 : ((rd l0 x13_1) == (rd l1 x13_1)) = false := beq_eq_false_iff_ne.mpr c8
                  have c8b1 : ((rd l0 x13_1) != (rd l1 x13_1)) = true := bne_iff_ne.mpr c8
                  obtain rfl := Option.some.inj H
                  have p296 : 0 ≤ (x13_1 : Int) := of_decide_eq_true (by first | (with_reducible assumption) | assumption)
                  have q296 : x13_1 < (l0.length : Int) := of_decide_eq_true (by first | (with_reducible assumption) | assumption)
                  obtain ⟨ad296, e296, hx296_0⟩ := Kd.at_int HR0.out x13_1 p296 q296
                  cases e296
                  replace p296 := eq_true p296
                  replace q296 := eq_true q296
                  have p297 : 0 ≤ (x13_1 : Int) := of_decide_eq_true (by first | (with_reducible assumption) | assumption)
                  have q297 : x13_1 < (l1.length : Int) := of_decide_eq_true (by first | (with_reducible assumption) | assumption)
                  obtain ⟨ad297, e297, hx297_0⟩ := Kd.at_int HR1.out x13_1 p297 q297
                  cases e297
                  replace p297 := eq_true p297
                  replace q297 := eq_true q297
                  go_wp2
                  repeat (go_quiet (fail); try go_wp2)
                  go_ret
                  exact ⟨by first | rfl | (simp; done) | (simp [*]; done), by repeat (first | exact Drawn0.refl _ | apply Drawn0.step)⟩
              · rw [if_neg c7] at H
                exact absurd H (by simp)
            · rw [if_neg c6] at H
              exact absurd H (by simp)
          · rw [if_neg c5] at H
            exact absurd H (by simp)
        · rw [if_neg c4] at H
          have c4b0 : decide (x13_1 < (l0.length : Int)) = false := decide_eq_false c4
          clear c4
          obtain rfl := Option.some.inj H
          go_wp2
          repeat (go_quiet (fail); try go_wp2)
          go_ret
          exact ⟨by first | rfl | (simp; done) | (simp [*]; done), by repeat (first | exact Drawn0.refl _ | apply Drawn0.step)⟩
  · rw [if_neg c3] at H
    have c3b0 : ((l0.length : Int) == (l1.length : Int)) = false := beq_eq_false_iff_ne.mpr c3
    have c3b1 : ((l0.length : Int) != (l1.length : Int)) = true := bne_iff_ne.mpr c3
    have c3b2 : (l0.length == l1.length) = false := by first | simpa using c3 | (simp at c3 ⊢; omega)
    obtain rfl := Option.some.inj H
    go_enter Try.func160, Try.ntmps160
    go_wp2
    repeat (go_quiet (fail); try go_wp2)
    go_ret
    exact ⟨by first | rfl | (simp; done) | (simp [*]; done), by repeat (first | exact Drawn0.refl _ | apply Drawn0.step)⟩

end Go.Proofs.Ytllnieknogficaa.K
namespace Go.Proofs.Ytllnieknogficaa.K
open Go.RowKit Go.Proofs.YtllnieknogficaaW.PrintWords Go.Proofs.YtllnieknogficaaW.PrintLast Go.Proofs.YtllnieknogficaaW.PrintMore
attribute [local go_sem] max2_int min2_int max_two min_two max_three min_three max_four min_four   -- for this text's walks alone
set_option linter.unusedVariables false
set_option linter.unusedSimpArgs false

/-! ### spec_l1Same: function 158 -/
def spec_l1Same.l0 : Nat → List Int → List Int → Int → Int → Option (Bool)
  | 0, _, _, _, _ => none
  | k + 1, x0, x1, x12, x13 => if x13 < x12 then (if 0 ≤ x13 then (if x13 < (x0.length : Int) then (if x13 < (x1.length : Int) then (if (rd x0 x13) = (rd x1 x13) then (spec_l1Same.l0 k x0 x1 x12 (wrap64 (x13 + 1))) else (some false)) else (none)) else (none)) else (none)) else (some true)
def spec_l1Same.f (k : Nat) (l0 : List Int) (l1 : List Int) : Option (Bool) := if (l0.length : Int) = (l1.length : Int) then (spec_l1Same.l0 k l0 l1 (l0.length : Int) 0) else (some false)
theorem spec_l1Same.mono_l : ∀ k, (∀ y0 y1 y2 y3, LeO (spec_l1Same.l0 k y0 y1 y2 y3) (spec_l1Same.l0 (k + 1) y0 y1 y2 y3))
  | 0 => fun _ _ _ _ r h => by simp [spec_l1Same.l0] at h
  | k + 1 => by
    have ih0 := spec_l1Same.mono_l k
    · intro y0 y1 y2 y3
      unfold spec_l1Same.l0
      repeat' first
      | (with_reducible exact ih0 _ _ _ _)
      | (with_reducible exact LeO.refl _)
      | (with_reducible exact LeO.none _)
      | (with_reducible refine LeO.ite ?_ ?_)
      | (with_reducible refine LeO.bind ?_ (fun _ => ?_))
      | exact ih0 _ _ _ _
      | exact LeO.none _
      | refine LeO.ite ?_ ?_
      | refine LeO.bind ?_ (fun _ => ?_)
theorem spec_l1Same.mono : ∀ a0 a1 k, LeO (spec_l1Same.f k a0 a1) (spec_l1Same.f (k + 1) a0 a1) := by
  intro a0 a1 k
  have ih0 := spec_l1Same.mono_l k
  unfold spec_l1Same.f
  repeat' first
      | (with_reducible exact ih0 _ _ _ _)
      | (with_reducible exact LeO.refl _)
      | (with_reducible exact LeO.none _)
      | (with_reducible refine LeO.ite ?_ ?_)
      | (with_reducible refine LeO.bind ?_ (fun _ => ?_))
      | exact ih0 _ _ _ _
      | exact LeO.none _
      | refine LeO.ite ?_ ?_
      | refine LeO.bind ?_ (fun _ => ?_)
set_option maxHeartbeats 8000000 in
set_option maxRecDepth 100000 in
theorem spec_l1Same.calls (k : Nat) (A0 : Option Addr) (c0 : Nat) (l0 : List Int) (A1 : Option Addr) (c1 : Nat) (l1 : List Int) (r : Bool) (w : World) (hr0 : Kd.C (Kd.int .i64) w A0 l0.length l0) (hc0 : l0.length ≤ c0) (hr1 : Kd.C (Kd.int .i64) w A1 l1.length l1) (hc1 : l1.length ≤ c1) (h : spec_l1Same.f k l0 l1 = some r) :
    Calls Try.prog 158 #[.slice A0 l0.length c0, .slice A1 l1.length c1] w fun e w' => e = .returned (.bool r) ∧ Drawn0 w w' := by
  have HR0 := Aside0.mk hr0
  have HC0 := Aside0.mk hc0
  clear hr0 hc0
  have HR1 := Aside0.mk hr1
  have HC1 := Aside0.mk hc1
  clear hr1 hc1
  have H : (if (l0.length : Int) = (l1.length : Int) then (spec_l1Same.l0 k l0 l1 (l0.length : Int) 0) else (some false)) = some r := h
  clear h
  by_cases c3 : (l0.length : Int) = (l1.length : Int)
  · rw [if_pos c3] at H
    have c3b0 : ((l0.length : Int) == (l1.length : Int)) = true := beq_iff_eq.mpr c3
    have c3b1 : ((l0.length : Int) != (l1.length : Int)) = false := bne_eq_false_iff_eq.mpr c3
    have c3b2 : (l0.length == l1.length) = true := by first | simpa using c3 | (simp at c3 ⊢; omega)
    clear c3
    have H' := Aside0.mk H
    clear H
    go_enter Try.func158, Try.ntmps158
    go_wp2
    repeat (go_quiet (fail); try go_wp2)
    go_loopg [13] k (fun kq v13 w' => ∃ (x13_1 : Int), v13 = .int .i64 x13_1 ∧ Aside0 (spec_l1Same.l0 kq l0 l1 (l0.length : Int) x13_1 = some r) ∧ Aside0 (kq ≤ k) ∧ Drawn0 w w')
    case atStart => exact ⟨(0), (by first | rfl | (simp; done) | (simp [*]; done)), H', ⟨Nat.le_refl _⟩, by repeat (first | exact Drawn0.refl _ | apply Drawn0.step)⟩
    case round =>
      clear H'
      try clear c1
      try clear p2
      try clear c3
      try clear c3b0
      try clear c3b1
      try clear c3b2
      obtain ⟨x13_1, rfl, HA, HK1, ⟨m1, rfl⟩⟩ := hrel
      cases gk with
      | zero => exact absurd HA.out (by simp [spec_l1Same.l0])
      | succ k1 =>
        have H := HA.out
        clear HA
        simp only [spec_l1Same.l0] at H
        by_cases c4 : x13_1 < (l0.length : Int)
        · rw [if_pos c4] at H
          have c4b0 : decide (x13_1 < (l0.length : Int)) = true := decide_eq_true c4
          clear c4
          by_cases c5 : 0 ≤ x13_1
          · rw [if_pos c5] at H
            have c5b0 : decide (0 ≤ x13_1) = true := decide_eq_true c5
            clear c5
            by_cases c6 : x13_1 < (l0.length : Int)
            · rw [if_pos c6] at H
              have c6b0 : decide (x13_1 < (l0.length : Int)) = true := decide_eq_true c6
              clear c6
              by_cases c7 : x13_1 < (l1.length : Int)
              · rw [if_pos c7] at H
                have c7b0 : decide (x13_1 < (l1.length : Int)) = true := decide_eq_true c7
                clear c7
                by_cases c8 : (rd l0 x13_1) = (rd l1 x13_1)
                · rw [if_pos c8] at H
                  have c8b0 : ((rd l0 x13_1) == (rd l1 x13_1)) = true := beq_iff_eq.mpr c8
                  have c8b1 : ((rd l0 x13_1) != (rd l1 x13_1)) = false := bne_eq_false_iff_eq.mpr c8
                  clear c8
                  have H' := Aside0.mk H
                  clear H
                  have p898 : 0 ≤ (x13_1 : Int) := of_decide_eq_true (by first | (with_reducible assumption) | assumption)
                  have q898 : x13_1 < (l0.length : Int) := of_decide_eq_true (by first | (with_reducible assumption) | assumption)
                  obtain ⟨ad898, e898, hx898_0⟩ := Kd.at_int HR0.out x13_1 p898 q898
                  cases e898
                  replace p898 := eq_true p898
                  replace q898 := eq_true q898
                  have p899 : 0 ≤ (x13_1 : Int) := of_decide_eq_true (by first | (with_reducible assumption) | assumption)
                  have q899 : x13_1 < (l1.length : Int) := of_decide_eq_true (by first | (with_reducible assumption) | assumption)
                  obtain ⟨ad899, e899, hx899_0⟩ := Kd.at_int HR1.out x13_1 p899 q899
                  cases e899
                  replace p899 := eq_true p899
                  replace q899 := eq_true q899
                  go_wp2
                  repeat (go_quiet (fail); try go_wp2)
                  go_roundg k1
                  case measure => have := HK1.out; omega
                  case rel => exact ⟨(wrap64 (x13_1 + 1)), (by first | rfl | (simp; done) | (simp [*]; done)), H', ⟨by have := HK1.out; omega⟩, by repeat (first | exact Drawn0.refl _ | apply Drawn0.step)⟩
                · rw [if_neg c8] at H
                  have c8b0 : ((rd l0 x13_1) == (rd l1 x13_1)) = false := beq_eq_false_iff_ne.mpr c8
                  have c8b1 : ((rd l0 x13_1) != (rd l1 x13_1)) = true := bne_iff_ne.mpr c8
                  obtain rfl := Option.some.inj H
                  have p898 : 0 ≤ (x13_1 : Int) := of_decide_eq_true (by first | (with_reducible assumption) | assumption)
                  have q898 : x13_1 < (l0.length : Int) := of_decide_eq_true (by first | (with_reducible assumption) | assumption)
                  obtain ⟨ad898, e898, hx898_0⟩ := Kd.at_int HR0.out x13_1 p898 q898
                  cases e898
                  replace p898 := eq_true p898
                  replace q898 := eq_true q898
                  have p899 : 0 ≤ (x13_1 : Int) := of_decide_eq_true (by first | (with_reducible assumption) | assumption)
                  have q899 : x13_1 < (l1.length : Int) := of_decide_eq_true (by first | (with_reducible assumption) | assumption)
                  obtain ⟨ad899, e899, hx899_0⟩ := Kd.at_int HR1.out x13_1 p899 q899
                  cases e899
                  replace p899 := eq_true p899
                  replace q899 := eq_true q899
                  go_wp2
                  repeat (go_quiet (fail); try go_wp2)
                  go_ret
                  exact ⟨by first | rfl | (simp; done) | (simp [*]; done), by repeat (first | exact Drawn0.refl _ | apply Drawn0.step)⟩
              · rw [if_neg c7] at H
                exact absurd H (by simp)
            · rw [if_neg c6] at H
              exact absurd H (by simp)
          · rw [if_neg c5] at H
            exact absurd H (by simp)
        · rw [if_neg c4] at H
          have c4b0 : decide (x13_1 < (l0.length : Int)) = false := decide_eq_false c4
          clear c4
          obtain rfl := Option.some.inj H
          go_wp2
          repeat (go_quiet (fail); try go_wp2)
          go_ret
          exact ⟨by first | rfl | (simp; done) | (simp [*]; done), by repeat (first | exact Drawn0.refl _ | apply Drawn0.step)⟩
  · rw [if_neg c3] at H
    have c3b0 : ((l0.length : Int) == (l1.length : Int)) = false := beq_eq_false_iff_ne.mpr c3
    have c3b1 : ((l0.length : Int) != (l1.length : Int)) = true := bne_iff_ne.mpr c3
    have c3b2 : (l0.length == l1.length) = false := by first | simpa using c3 | (simp at c3 ⊢; omega)
    obtain rfl := Option.some.inj H
    go_enter Try.func158, Try.ntmps158
    go_wp2
    repeat (go_quiet (fail); try go_wp2)
    go_ret
    exact ⟨by first | rfl | (simp; done) | (simp [*]; done), by repeat (first | exact Drawn0.refl _ | apply Drawn0.step)⟩

end Go.Proofs.Ytllnieknogficaa.K
namespace Go.Proofs.Ytllnieknogficaa.K
open Go.RowKit Go.Proofs.YtllnieknogficaaW.PrintWords Go.Proofs.YtllnieknogficaaW.PrintLast Go.Proofs.YtllnieknogficaaW.PrintMore
attribute [local go_sem] max2_int min2_int max_two min_two max_three min_three max_four min_four   -- for this text's walks alone
set_option linter.unusedVariables false
set_option linter.unusedSimpArgs false
theorem equal_l0 (a b : List Int) (hl : a.length = b.length) (hs : a.length ≤ 4611686018427387904) : ∀ d (i : Nat), i ≤ a.length → a.length - i = d →
    Ev (fun k => slices_Equal_int_int.l0 k a b (a.length : Int) (i : Int)) (decide (a.drop i = b.drop i)) ∧ Ev (fun k => spec_l1Same.l0 k a b (a.length : Int) (i : Int)) (decide (a.drop i = b.drop i)) := by
  intro d
  induction d with
  | zero =>
    intro i hi hd
    have : i = a.length := by omega
    subst this
    have e : decide (a.drop a.length = b.drop a.length) = true := by rw [List.drop_length, List.drop_eq_nil_of_le (by omega)]; rfl
    rw [e]
    refine ⟨ev_succ ?_, ev_succ ?_⟩
    · simp only [slices_Equal_int_int.l0, if_neg (Int.lt_irrefl _)]; exact ev_now _ _ rfl
    · simp only [spec_l1Same.l0, if_neg (Int.lt_irrefl _)]; exact ev_now _ _ rfl
  | succ d ih =>
    intro i hi hd
    have hlt : i < a.length := by omega
    have hlb : i < b.length := by omega
    have h1 : (i : Int) < (a.length : Int) := by omega
    have h2 : (0 : Int) ≤ (i : Int) := by omega
    have h3 : (i : Int) < (b.length : Int) := by omega
    obtain ⟨g1, g2⟩ := ih (i + 1) (by omega) (by omega)
    by_cases hc : a[i] = b[i]
    · have e : decide (a.drop i = b.drop i) = decide (a.drop (i + 1) = b.drop (i + 1)) := by
        rw [List.drop_eq_getElem_cons hlt, List.drop_eq_getElem_cons hlb, hc]
        exact decide_eq_decide.2 ⟨fun h => by injection h, fun h => by rw [h]⟩
      rw [e]
      refine ⟨ev_succ ?_, ev_succ ?_⟩
      · simp only [slices_Equal_int_int.l0, if_pos h1, if_pos h2, if_pos h3, rd_nat a i hlt, rd_nat b i hlb, if_pos hc, wrap64_nat_succ (show i < 9223372036854775807 by omega)]
        exact g1
      · simp only [spec_l1Same.l0, if_pos h1, if_pos h2, if_pos h3, rd_nat a i hlt, rd_nat b i hlb, if_pos hc, wrap64_nat_succ (show i < 9223372036854775807 by omega)]
        exact g2
    · have e : decide (a.drop i = b.drop i) = false := by
        rw [List.drop_eq_getElem_cons hlt, List.drop_eq_getElem_cons hlb]
        refine decide_eq_false (fun h => hc ?_)
        injection h
      rw [e]
      refine ⟨ev_succ ?_, ev_succ ?_⟩
      · simp only [slices_Equal_int_int.l0, if_pos h1, if_pos h2, if_pos h3, rd_nat a i hlt, rd_nat b i hlb, if_neg hc]
        exact ev_now _ _ rfl
      · simp only [spec_l1Same.l0, if_pos h1, if_pos h2, if_pos h3, rd_nat a i hlt, rd_nat b i hlb, if_neg hc]
        exact ev_now _ _ rfl
theorem equal_ev (a b : List Int) (hs : a.length ≤ 4611686018427387904) : Ev (fun k => slices_Equal_int_int.f k a b) (decide (a = b)) := by
  unfold slices_Equal_int_int.f
  by_cases h : a.length = b.length
  · simp only [if_pos (show (a.length : Int) = (b.length : Int) by omega)]
    exact (equal_l0 a b h hs a.length 0 (by omega) (by omega)).1
  · simp only [if_neg (show ¬ (a.length : Int) = (b.length : Int) by omega)]
    refine ev_now _ _ ?_
    exact (decide_eq_false (fun e => h (by rw [e]))).symm
theorem same_ev (a b : List Int) (hs : a.length ≤ 4611686018427387904) : Ev (fun k => spec_l1Same.f k a b) (decide (a = b)) := by
  unfold spec_l1Same.f
  by_cases h : a.length = b.length
  · simp only [if_pos (show (a.length : Int) = (b.length : Int) by omega)]
    exact (equal_l0 a b h hs a.length 0 (by omega) (by omega)).2
  · simp only [if_neg (show ¬ (a.length : Int) = (b.length : Int) by omega)]
    refine ev_now _ _ ?_
    exact (decide_eq_false (fun e => h (by rw [e]))).symm
/-! ### sums of rows -/
theorem rowSums_l0 (l : List (List Int)) (hl : l.length ≤ 1048576) (hr : ∀ r ∈ l, r.length ≤ 1048576) : ∀ d (i : Nat), i ≤ l.length → l.length - i = d → Ev (fun k => impl_rowSums.l0 k ((l.take i).map isum) l (l.length : Int) (i : Int)) (l.map isum) := by
  intro d
  induction d with
  | zero =>
    intro i hi hd
    have : i = l.length := by omega
    subst this
    refine ev_succ ?_
    simp only [impl_rowSums.l0, if_neg (Int.lt_irrefl _), List.take_length]
    exact ev_now _ _ rfl
  | succ d ih =>
    intro i hi hd
    have hlt : i < l.length := by omega
    have h1 : (i : Int) < (l.length : Int) := by omega
    have h2 : (0 : Int) ≤ (i : Int) := by omega
    have hle : ((l.take i).map isum).length < 17592186044416 := by rw [List.length_map, List.length_take]; omega
    refine ev_succ ?_
    simp only [impl_rowSums.l0, if_pos h1, if_pos h2, rdL_nat l i hlt, if_pos hle, wrap64_nat_succ (show i < 9223372036854775807 by omega)]
    refine Ev.bind (total_ev l[i] (by have := hr _ (List.getElem_mem hlt); omega)) ?_
    have := ih (i + 1) (by omega) (by omega)
    rw [List.take_succ_eq_append_getElem hlt, List.map_append] at this
    exact this
theorem rowSums_ev (l : List (List Int)) (hl : l.length ≤ 1048576) (hr : ∀ r ∈ l, r.length ≤ 1048576) : Ev (fun k => impl_rowSums.f k l) (l.map isum) := rowSums_l0 l hl hr l.length 0 (by omega) (by omega)
/-- The sums of columns of the first rows. -/
def colSum (l : List (List Int)) (i q : Nat) : Int := isum (colOf (l.take i) q)
theorem colSum_succ (l : List (List Int)) (i q : Nat) (hi : i < l.length) (hq : q < l[i].length) : colSum l (i + 1) q = wrap64 (colSum l i q + l[i][q]) := by
  unfold colSum colOf isum
  rw [List.take_succ_eq_append_getElem hi, List.map_append, List.foldl_append]
  simp only [List.map_cons, List.map_nil, List.foldl_cons, List.foldl_nil, List.getD_eq_getElem?_getD, List.getElem?_eq_getElem hq, Option.getD_some]
def colAt (l : List (List Int)) (n i j : Nat) : List Int := (List.range n).map fun q => if q < j then colSum l (i + 1) q else colSum l i q
theorem colAt_length (l : List (List Int)) (n i j : Nat) : (colAt l n i j).length = n := by simp [colAt]
theorem colAt_end (l : List (List Int)) (n i : Nat) : colAt l n i n = colAt l n (i + 1) 0 := by
  unfold colAt
  apply List.map_congr_left
  intro q hq
  rw [List.mem_range] at hq
  rw [if_pos hq, if_neg (by omega)]
theorem colAt_step (l : List (List Int)) (n i j : Nat) (hi : i < l.length) (hj : j < n) (hr : j < l[i].length) : (colAt l n i j).set j (wrap64 ((colAt l n i j)[j]'(by rw [colAt_length]; exact hj) + l[i][j])) = colAt l n i (j + 1) := by
  apply List.ext_getElem
  · simp [colAt]
  · intro q h1 h2
    rw [List.getElem_set]
    simp only [colAt, List.getElem_map, List.getElem_range]
    by_cases h : j = q
    · subst h
      rw [if_pos rfl, if_neg (by omega), if_pos (by omega), colSum_succ l i j hi hr]
    · rw [if_neg h]
      by_cases h3 : q < j
      · rw [if_pos h3, if_pos (by omega)]
      · rw [if_neg h3, if_neg (by omega)]
theorem plSums_l1 (l : List (List Int)) (n i : Nat) (hn : n ≤ 8) (hl : l.length ≤ 8) (hi : i < l.length) (hr : l[i].length = n) (rs : List Int) (r : List Int × List Int)
    (hnext : Ev (fun k => spec_plSums.l0 k rs (colAt l n (i + 1) 0) l (l.length : Int) (wrap64 ((i : Int) + 1))) r) : ∀ d (j : Nat), j ≤ n → n - j = d → Ev (fun k => spec_plSums.l1 k rs (colAt l n i j) l (l.length : Int) (i : Int) l[i] (n : Int) (j : Int)) r := by
  intro d
  induction d with
  | zero =>
    intro j hj hd
    have : j = n := by omega
    subst this
    refine ev_succ ?_
    simp only [spec_plSums.l1, if_neg (Int.lt_irrefl _)]
    rw [colAt_end]
    exact hnext
  | succ d ih =>
    intro j hj hd
    have hlt : j < n := by omega
    have h1 : (j : Int) < (n : Int) := by omega
    have h2 : (0 : Int) ≤ (j : Int) := by omega
    have h3 : (j : Int) < (l[i].length : Int) := by omega
    have h4 : (j : Int) < ((colAt l n i j).length : Int) := by rw [colAt_length]; omega
    have hjr : j < l[i].length := by omega
    refine ev_succ ?_
    simp only [spec_plSums.l1, if_pos h1, if_pos h2, if_pos h3, if_pos h4, Int.toNat_natCast, rd_nat (colAt l n i j) j (by rw [colAt_length]; exact hlt), rd_nat l[i] j hjr, wrap64_nat_succ (show j < 9223372036854775807 by omega)]
    rw [colAt_step l n i j hi hlt hjr]
    exact ih (j + 1) (by omega) (by omega)
theorem plSums_l0 (l : List (List Int)) (n : Nat) (hn : n ≤ 8) (hl : l.length ≤ 8) (hr : ∀ r ∈ l, r.length = n) : ∀ d (i : Nat), i ≤ l.length → l.length - i = d →
    Ev (fun k => spec_plSums.l0 k ((l.take i).map isum) (colAt l n i 0) l (l.length : Int) (i : Int)) (l.map isum, colAt l n l.length 0) := by
  intro d
  induction d with
  | zero =>
    intro i hi hd
    have : i = l.length := by omega
    subst this
    refine ev_succ ?_
    simp only [spec_plSums.l0, if_neg (Int.lt_irrefl _), List.take_length]
    exact ev_now _ _ rfl
  | succ d ih =>
    intro i hi hd
    have hlt : i < l.length := by omega
    have h1 : (i : Int) < (l.length : Int) := by omega
    have h2 : (0 : Int) ≤ (i : Int) := by omega
    have hle : ((l.take i).map isum).length < 17592186044416 := by rw [List.length_map, List.length_take]; omega
    have hrow := hr _ (List.getElem_mem hlt)
    refine ev_succ ?_
    simp only [spec_plSums.l0, if_pos h1, if_pos h2, rdL_nat l i hlt, if_pos hle, hrow]
    refine Ev.bind (liSum_ev l[i] (by omega)) ?_
    refine plSums_l1 l n i hn hl hlt hrow _ _ ?_ n 0 (by omega) (by omega)
    have := ih (i + 1) (by omega) (by omega)
    rw [List.take_succ_eq_append_getElem hlt, List.map_append, ← wrap64_nat_succ (show i < 9223372036854775807 by omega)] at this
    exact this
theorem plSums_ev (l : List (List Int)) (h : planB l = true) : Ev (fun k => spec_plSums.f k l) (l.map isum, (turned l).map isum) := by
  obtain ⟨h1, h2, h3⟩ := (planB_iff l).1 h
  unfold spec_plSums.f
  simp only [if_pos (show (0 : Int) ≤ (l.length : Int) by omega), Int.toNat_natCast, if_pos (show l.length ≤ 35184372088832 by omega)]
  have e0 : List.replicate l.length 0 = colAt l l.length 0 0 := by
    apply List.ext_getElem
    · simp [colAt]
    · intro q h1 h2; simp [colAt, colSum, colOf, isum]
  have e1 : (turned l).map isum = colAt l l.length l.length 0 := by
    unfold turned colAt
    rw [List.map_map]
    apply List.map_congr_left
    intro q _
    rw [if_neg (by omega)]
    unfold colSum
    rw [List.take_length]; rfl
  rw [e0, e1]
  exact plSums_l0 l l.length h2 h2 (fun r hr => (h3 r hr).1) l.length 0 (by omega) (by omega)
/-! ### an empty table -/
theorem plEmpty_l0 (n : Nat) (hn : n ≤ 1048576) : ∀ d (i : Nat), i ≤ n → n - i = d → Ev (fun k => spec_plEmpty.l0 k (n : Int) (List.replicate i (List.replicate n 0)) (i : Int)) (List.replicate n (List.replicate n 0)) := by
  intro d
  induction d with
  | zero =>
    intro i hi hd
    have : i = n := by omega
    subst this
    refine ev_succ ?_
    simp only [spec_plEmpty.l0, if_neg (Int.lt_irrefl _)]
    exact ev_now _ _ rfl
  | succ d ih =>
    intro i hi hd
    have h1 : (i : Int) < (n : Int) := by omega
    have h2 : (0 : Int) ≤ (n : Int) := by omega
    refine ev_succ ?_
    simp only [spec_plEmpty.l0, if_pos h1, if_pos h2, Int.toNat_natCast, if_pos (show n ≤ 35184372088832 by omega), List.length_replicate, if_pos (show i < 5864062014805 by omega), wrap64_nat_succ (show i < 9223372036854775807 by omega)]
    have := ih (i + 1) (by omega) (by omega)
    rw [List.replicate_succ'] at this
    exact this
theorem plEmpty_ev (n : Nat) (hn : n ≤ 1048576) : Ev (fun k => spec_plEmpty.f k (n : Int)) (List.replicate n (List.replicate n 0)) := plEmpty_l0 n hn n 0 (by omega) (by omega)
end Go.Proofs.Ytllnieknogficaa.K
namespace Go.Proofs.Ytllnieknogficaa.K
open Go.RowKit Go.Proofs.YtllnieknogficaaW.PrintWords Go.Proofs.YtllnieknogficaaW.PrintLast Go.Proofs.YtllnieknogficaaW.PrintMore
attribute [local go_sem] max2_int min2_int max_two min_two max_three min_three max_four min_four   -- for this text's walks alone
set_option linter.unusedVariables false
set_option linter.unusedSimpArgs false
theorem blk_newE {w : World} {o : Obj} {g : Nat} (h : g = w.heap.size) : (w.alloc o).heap[g]? = some o := by subst h; exact blk_new w o
theorem size_alloc (w : World) (o : Obj) : (w.alloc o).heap.size = w.heap.size + 1 := by show (w.heap.push o).size = _; simp
theorem size_drew (w : World) : w.drew.heap.size = w.heap.size := rfl
end Go.Proofs.Ytllnieknogficaa.K
namespace Go.Proofs.Ytllnieknogficaa.K
open Go.RowKit Go.Proofs.YtllnieknogficaaW.PrintWords Go.Proofs.YtllnieknogficaaW.PrintLast Go.Proofs.YtllnieknogficaaW.PrintMore
attribute [local go_sem] max2_int min2_int max_two min_two max_three min_three max_four min_four   -- for this text's walks alone
set_option linter.unusedVariables false
set_option linter.unusedSimpArgs false

/-! ### impl_mapped: function 155 -/
def impl_mapped.row (num : Int → Int → Int → Int) (i : Int) (r : List Int) (m : Nat) : List Int := (List.range m).map fun (j : Nat) => num i j (r.getD j 0)
def impl_mapped.tab (num : Int → Int → Int → Int) (l : List (List Int)) (m : Nat) : List (List Int) := (List.range m).map fun (i : Nat) => impl_mapped.row num i (l.getD i []) (l.getD i []).length
theorem impl_mapped.tab_length (num : Int → Int → Int → Int) (l : List (List Int)) (m : Nat) : (impl_mapped.tab num l m).length = m := by simp [impl_mapped.tab]
theorem impl_mapped.row_length (num : Int → Int → Int → Int) (i : Int) (r : List Int) (m : Nat) : (impl_mapped.row num i r m).length = m := by simp [impl_mapped.row]
theorem impl_mapped.tab_succ (num : Int → Int → Int → Int) (l : List (List Int)) (m : Nat) (r : List Int) (h : l.getD m [] = r) : impl_mapped.tab num l m ++ [impl_mapped.row num m r r.length] = impl_mapped.tab num l (m + 1) := by subst h; simp [impl_mapped.tab, List.range_succ]
theorem impl_mapped.row_succ (num : Int → Int → Int → Int) (i : Int) (r : List Int) (m : Nat) (x : Int) (h : r.getD m 0 = x) : impl_mapped.row num i r m ++ [num i m x] = impl_mapped.row num i r (m + 1) := by subst h; simp [impl_mapped.row, List.range_succ]
set_option maxHeartbeats 2000000 in
set_option maxRecDepth 100000 in
theorem impl_mapped.calls (num : Int → Int → Int → Int) (g : Nat) (lb : Array Value) (eg : ∀ args w, (callFunc g args).run Try.prog w = .ok (.enter g args) w) (A0 : Option Addr) (c0 : Nat) (l0 : List (List Int)) (w : World) (hr0 : Kd.C (Kd.slice 3 (Kd.int .i64)) w A0 l0.length l0) (hc0 : l0.length ≤ c0) (hn : l0.length ≤ 1048576) (hrow : ∀ r ∈ l0, r.length ≤ 1048576)
    (hcl : ∀ (W : World) (i j n : Int), Below w.heap.size w W → Calls Try.prog g (#[.int .i64 i, .int .i64 j, .int .i64 n] ++ lb) W fun e w' => e = .returned (.int .i64 (num i j n)) ∧ Drawn0 W w') :
    Calls Try.prog 155 #[.slice A0 l0.length c0, .func (.func g) #[] lb] w fun e w' => ∃ v0_ : Value, e = .returned (v0_) ∧ Kd.S (Kd.slice 3 (Kd.int .i64)) 24 w' w.heap.size (fun _ => True) v0_ (impl_mapped.tab num l0 l0.length) ∧ Below w.heap.size w w' := by
  have HCL := Aside0.mk hcl
  have HR0 := Aside0.mk hr0
  have HN := Aside0.mk hn
  have HROW := Aside0.mk hrow
  have HB := Aside0.mk (Below.refl w.heap.size w)
  clear hcl hr0 hrow hn
  go_enter Try.func155, Try.ntmps155
  go_wp2_with (first | ((with_reducible refine gate_dst (N := 11) rfl ?_); refine Kd.S_lit (Kd.slice 3 (Kd.int .i64)) _ 24 ?hg (N := 11) ?hd (xs := ([] : List (List Int))) (inner := []) (ok := fun _ => True) (okp := fun _ => True) ?hr ?hp (fun _ hk => hk) trivial (Below.refl _ _) (Nat.le_refl _) (by simp) ?_; (case hd => rfl); (case hg => rfl); (case hr => first | (go_simp; done) | (go_simp; rfl)); (case hp => exact (Reps.none _ _)); intro v5 w3 ho4 hb hg_ hnew_; clear hg_ hnew_; have n0_ := Aside0.mk (Kd.S_lower ho4 (below_size HB.out)); have n1_ := Aside0.mk (below_step HB.out hb); clear HB; have HO5 := n0_; have HB := n1_; clear n0_ n1_; clear hb ho4))
  go_loopg [5, 14] l0.length (fun gg s5 s14 wr => ∃ m : Nat, m ≤ l0.length ∧ l0.length - m ≤ gg ∧ s14 = .int .i64 m ∧ Aside0 (Kd.S (Kd.slice 3 (Kd.int .i64)) 24 wr w.heap.size (fun _ => True) s5 (impl_mapped.tab num l0 m)) ∧ Aside0 (Below w.heap.size w wr))
  case atStart => exact ⟨0, Nat.zero_le _, by omega, rfl, ⟨HO5.out⟩, HB⟩
  case round =>
    clear HB HO5
    obtain ⟨m, hm, hg, rfl, HS, HB⟩ := hrel
    by_cases hlt : m < l0.length
    · have hltz : (m : Int) < (l0.length : Int) := by omega
      have hmz : (0 : Int) ≤ (m : Int) := by omega
      obtain ⟨wo, rfl⟩ : ∃ wo : World, wo = wr := ⟨_, rfl⟩
      obtain ⟨ad, Ar, cr, rfl, cx, hl, hC⟩ := at_L2 HR0.out (m : Int) hmz hltz
      have cx2 := pw_cell_below HB.out cx
      rw [rdL_nat_getD] at hC hl cx2
      rw [Int.toNat_natCast] at cx2
      obtain ⟨r, hr⟩ : ∃ r, l0.getD m [] = r := ⟨_, rfl⟩
      rw [hr] at hC hl cx2
      have HRr := Aside0.mk hr
      have HC := Aside0.mk (Kd.C_below hC HB.out)
      have HLr := Aside0.mk hl
      have hrl : r.length ≤ 1048576 := HROW.out r (by rw [← hr, List.getD_eq_getElem?_getD, List.getElem?_eq_getElem hlt]; exact List.getElem_mem hlt)
      have HRL := Aside0.mk hrl
      clear hr hC hl cx hrl
      go_wp2_with (first | ((with_reducible refine gate_dst (N := 19) rfl ?_); refine Kd.R_lit (Kd.int .i64) _ 3 ?hg (N := 19) ?hd (xs := ([] : List Int)) (inner := []) (ok := fun _ => True) (okp := fun _ => True) ?hr ?hp (fun _ hk => hk) trivial (Below.refl _ _) (Nat.le_refl _) (by simp) ?_; (case hd => rfl); (case hg => rfl); (case hr => first | (go_simp; done) | (go_simp; rfl)); (case hp => exact (Reps.none _ _)); intro v7 w4 ho4 hb hg_ hnew_; clear hg_ hnew_; have HS4 := Aside0.mk (Kd.S_old HS.out hb); have HB4 := Aside0.mk hb; have HO7 := Aside0.mk ho4; clear hb ho4))
      go_loopg [8, 22] r.length (fun gg s8 s22 w' => ∃ j : Nat, j ≤ r.length ∧ r.length - j ≤ gg ∧ s22 = .int .i64 j ∧ Aside0 (Kd.R (Kd.int .i64) 3 w' wo.heap.size (fun _ => True) s8 (impl_mapped.row num m r j)) ∧ Aside0 (Kd.S (Kd.slice 3 (Kd.int .i64)) 24 w' w.heap.size (fun k => True ∧ k < wo.heap.size) u5 (impl_mapped.tab num l0 m)) ∧ Aside0 (Below wo.heap.size wo w'))
      case atStart => exact ⟨0, Nat.zero_le _, by omega, rfl, HO7, HS4, HB4⟩
      case round =>
        clear HS4 HB4 HO7
        obtain ⟨j, hj, hg2, rfl, HRi, HSi, HBi⟩ := hrel
        by_cases hlt2 : j < r.length
        · have hltz2 : (j : Int) < (r.length : Int) := by omega
          have hjz : (0 : Int) ≤ (j : Int) := by omega
          obtain ⟨ar, rfl, cy⟩ := Kd.at_int (Kd.C_below HC.out HBi.out) (j : Int) hjz hltz2
          rw [Int.toNat_natCast, rd_nat_getD] at cy
          obtain ⟨x, hx⟩ : ∃ x, r.getD j 0 = x := ⟨_, rfl⟩
          rw [hx] at cy
          have HX := Aside0.mk hx
          clear hx
          go_wp2_with (first | (go_at_fn g; refine (HCL.out _ _ _ _ (below_step HB.out (by repeat (first | (with_reducible first | exact HBi.out | apply below_alloc | apply pw_below_drewN | apply below_drew1) | exact HBi.out)))).mono ?_; rintro e w' ⟨rfl, ⟨nd, rfl⟩⟩) | ((with_reducible refine gate_builtin (b := .append) (xs := #[.tmp 27, .tmp 33]) rfl ?_); at_builtin; refine Kd.R_append (Kd.int .i64) (w0 := wo) wo.heap.size rfl (.tmp 27) (.tmp 33) 24 3 (.int .i64 0) 8 rfl Try.underlying24 info3 rfl (by decide) (by omega) u8 (impl_mapped.row num m r j) (num m j x) [.int .i64 (num m j x)] (fun _ => True) (fun _ => False) rfl rfl ?aP (fun _ hk => hk.elim) ?aF ?aO ?aB ?aS ?aL ?_; (case aP => exact rfl); (case aB => exact (by repeat (first | (with_reducible first | exact HBi.out | apply below_alloc | apply pw_below_drewN | apply below_drew1) | exact HBi.out))); (case aF => exact (fun _ _ => trivial)); (case aO => exact (by (with_reducible repeat (first | apply Kd.R_alloc | apply Kd.R_drewN | apply Kd.R_drew)); exact HRi.out)); (case aS => exact (below_size (by repeat (first | (with_reducible first | exact HBi.out | apply below_alloc | apply pw_below_drewN | apply below_drew1) | exact HBi.out)))); (case aL => rw [impl_mapped.row_length]; have := HRL.out; omega); intro v8 w8 ho hb hg hat; rw [impl_mapped.row_succ num m r j x HX.out] at ho; have n0_ := Aside0.mk ho; have n1_ := Aside0.mk hb; have n2_ := Aside0.mk (Kd.S_grown (by (with_reducible repeat (first | apply Kd.S_alloc | apply Kd.S_drewN | apply Kd.S_drew)); exact HSi.out) hg (fun k hk he => by have h1 := Kd.R_base HRi.out k he.symm; have h2 := hk.2; omega)); clear HRi HBi HSi; have HRi := n0_; have HBi := n1_; have HSi := n2_; clear n0_ n1_ n2_ ho hb hg hat))
          go_roundg (r.length - (j + 1))
          case measure => omega
          case rel => exact ⟨j + 1, by omega, by omega, congrArg (Value.int .i64) (wrap64_nat_succ (by have := HRL.out; omega)), HRi, HSi, HBi⟩
        · have hltz2 : ¬ (j : Int) < (r.length : Int) := by omega
          have hk3 : j = r.length := by omega
          subst hk3
          obtain ⟨A7, c7, e7⟩ := Kd.R_slice HRi.out
          subst e7
          go_wp2_with ((with_reducible refine gate_builtin (b := .append) (xs := #[.tmp 36, .tmp 38]) rfl ?_); at_builtin; refine Kd.S_append (Kd.slice 3 (Kd.int .i64)) (w0 := w) w.heap.size rfl (.tmp 36) (.tmp 38) 37 24 (.slice none 0 0) 24 rfl Try.underlying37 info24 rfl (by decide) (by omega) u5 (impl_mapped.tab num l0 m) (impl_mapped.row num m r r.length) [.slice A7 (impl_mapped.row num m r r.length).length c7] (fun _ => True) (fun k_ => some k_ = (.slice A7 (impl_mapped.row num m r r.length).length c7 : Value).ownBlock) rfl rfl ?aP (fun k hk => ⟨trivial, fun he => by have h1 := Kd.R_base HRi.out k hk.symm; have h2 := ((Kd.S_R HSi.out).1 k he.symm).2; omega⟩) ?aF ?aO ?aB ?aS ?aL ?_; (case aP => exact Kd.M_row (Kd.R_mono (Kd.R_tight rfl (Kd.R_lower (by (with_reducible repeat (first | apply Kd.R_alloc | apply Kd.R_drewN | apply Kd.R_drew)); exact HRi.out) HB.out.size)) (fun _ h_ => h_))); (case aB => exact (below_step HB.out (by repeat (first | (with_reducible first | exact HBi.out | apply below_alloc | apply pw_below_drewN | apply below_drew1) | exact HBi.out)))); (case aF => exact (fun _ _ => trivial)); (case aO => exact Kd.S_mono (by (with_reducible repeat (first | apply Kd.S_alloc | apply Kd.S_drewN | apply Kd.S_drew)); exact HSi.out) (fun k hk => ⟨trivial, fun he => by have h1 := Kd.R_base HRi.out k he.symm; have h2 := hk.2; omega⟩)); (case aS => exact (below_size (below_step HB.out (by repeat (first | (with_reducible first | exact HBi.out | apply below_alloc | apply pw_below_drewN | apply below_drew1) | exact HBi.out))))); (case aL => rw [impl_mapped.tab_length]; have := HN.out; omega); intro v9 w9 ho hb hg hat; rw [impl_mapped.tab_succ num l0 m r HRr.out] at ho; have HS9 := Aside0.mk ho; have HB9 := Aside0.mk hb; clear ho hb hg hat)
          go_roundg (l0.length - (m + 1))
          case measure => omega
          case rel => exact ⟨m + 1, by omega, by omega, congrArg (Value.int .i64) (wrap64_nat_succ (by have := HN.out; omega)), HS9, HB9⟩
    · have hltz : ¬ (m : Int) < (l0.length : Int) := by omega
      have hk2 : m = l0.length := by omega
      subst hk2
      go_wp2
      go_ret
      exact ⟨_, rfl, HS.out, HB.out⟩

end Go.Proofs.Ytllnieknogficaa.K
namespace Go.Proofs.Ytllnieknogficaa.K
open Go.RowKit Go.Proofs.YtllnieknogficaaW.PrintWords Go.Proofs.YtllnieknogficaaW.PrintLast Go.Proofs.YtllnieknogficaaW.PrintMore
attribute [local go_sem] max2_int min2_int max_two min_two max_three min_three max_four min_four   -- for this text's walks alone
set_option linter.unusedVariables false
set_option linter.unusedSimpArgs false
def put2 (s : List (List Int)) (i j : Nat) (v : Int) : List (List Int) := s.set i ((s.getD i []).set j v)
def uncM (s : List (List Int)) (i j : Nat) (n : Int) : List (List Int) := put2 s i j (wrap64 ((s.getD i []).getD j 0 - n))
def uncP (s : List (List Int)) (i j : Nat) (n : Int) : List (List Int) := put2 s i j (wrap64 ((s.getD i []).getD j 0 + n))
/-- A plan without the crossing of (a, b) and (c, d). -/
def uncT (s : List (List Int)) (a b c d : Nat) (n : Int) : List (List Int) := uncP (uncP (uncM (uncM s a b n) c d n) a d n) c b n
def uncOk (l : List (List Int)) (a b c d : Int) : Prop := l.length ≤ 8 ∧ (∀ r ∈ l, r.length = l.length) ∧ 0 ≤ a ∧ a < (l.length : Int) ∧ 0 ≤ b ∧ b < (l.length : Int) ∧ 0 ≤ c ∧ c < (l.length : Int) ∧ 0 ≤ d ∧ d < (l.length : Int)
instance (l : List (List Int)) (a b c d : Int) : Decidable (uncOk l a b c d) := by unfold uncOk; infer_instance
def uncEnd (plan : List (List Int) → Option Bool) (cost : List (List Int) → Option Int) (l s : List (List Int)) : Option (List (List Int) × Int × Bool) :=
  (plan s).bind fun t => if t = true then ((cost l).bind fun c1 => (cost s).bind fun c2 => some (s, wrap64 (c1 - c2), true)) else some ([], 0, false)
theorem put2_shape {n : Nat} {s : List (List Int)} (hs : s.length = n) (hr : ∀ r ∈ s, r.length = n) (i j : Nat) (v : Int) : (put2 s i j v).length = n ∧ ∀ r ∈ put2 s i j v, r.length = n := by
  refine ⟨by simp [put2, hs], fun r h => ?_⟩
  unfold put2 at h
  by_cases hi : i < s.length
  · rcases List.mem_or_eq_of_mem_set h with h | h
    · exact hr r h
    · subst h
      rw [List.length_set, List.getD_eq_getElem?_getD, List.getElem?_eq_getElem hi]
      exact hr _ (List.getElem_mem hi)
  · rw [List.set_eq_of_length_le (by omega)] at h
    exact hr r h
theorem row_of {n : Nat} {s : List (List Int)} (hs : s.length = n) (hr : ∀ r ∈ s, r.length = n) (i : Nat) (hi : i < n) : (s.getD i []).length = n := by
  rw [List.getD_eq_getElem?_getD, List.getElem?_eq_getElem (by omega)]
  exact hr _ (List.getElem_mem (by omega))
theorem mapped_id (l : List (List Int)) : impl_mapped.tab (fun _ _ n => n) l l.length = l := by
  apply List.ext_getElem
  · rw [impl_mapped.tab_length]
  · intro i h1 h2
    simp only [impl_mapped.tab, List.getElem_map, List.getElem_range]
    have e : l.getD i [] = l[i] := by rw [List.getD_eq_getElem?_getD, List.getElem?_eq_getElem h2]; rfl
    rw [e]
    apply List.ext_getElem
    · rw [impl_mapped.row_length]
    · intro j h3 h4
      simp only [impl_mapped.row, List.getElem_map, List.getElem_range]
      rw [List.getD_eq_getElem?_getD, List.getElem?_eq_getElem h4]; rfl
/-- Between the writes: the table of the call's own, and the boxes of both cells. -/
structure UncSt (w W : World) (lo hi g n cap : Nat) (s : List (List Int)) (bx by_ : Nat) (a b c d : Nat) : Prop where
  own : OwnSS w W lo hi (.slice (some ⟨g, 0, none⟩) n cap) s
  bel : Below w.heap.size w W
  xx : W.heap[bx]? = some (.cells #[.int .i64 (a : Int), .int .i64 (b : Int)] 70 (0, 0))
  yy : W.heap[by_]? = some (.cells #[.int .i64 (c : Int), .int .i64 (d : Int)] 70 (0, 0))
  nx : bx < lo
  ny : by_ < lo
  len : s.length = n
  rows : ∀ r ∈ s, r.length = n
theorem UncSt.put {w W : World} {lo hi g n cap : Nat} {s : List (List Int)} {bx by_ a b c d : Nat} (h : UncSt w W lo hi g n cap s bx by_ a b c d) (i j : Nat) (hi2 : i < n) (hj : j < n) :
    ∃ gi ci : Nat, W.cell? ⟨g, i, none⟩ = some (.slice (some ⟨gi, 0, none⟩) n ci) ∧ (∀ y, (s.getD i []).getD j 0 = y → W.cell? ⟨gi, j, none⟩ = some (.int .i64 y)) ∧ W.frozen? ⟨gi, j, none⟩ = false ∧
      ∀ v, UncSt w (W.setCell ⟨gi, j, none⟩ (.int .i64 v)) lo hi g n cap (put2 s i j v) bx by_ a b c d := by
  have hrow := row_of h.len h.rows i hi2
  obtain ⟨g', gi, ci, e, h1, h2, h3, h4, h5, h6⟩ := h.own.put i j (by rw [h.len]; exact hi2) (by rw [hrow]; exact hj)
  injection e with e
  injection e with e
  subst e
  rw [hrow] at h1
  refine ⟨gi, ci, h1, fun y hy => by rw [h2, hy], h3, fun v => ⟨h6 v, ?_, ?_, ?_, h.nx, h.ny, (put2_shape h.len h.rows i j v).1, (put2_shape h.len h.rows i j v).2⟩⟩
  · exact below_set h.bel (Nat.le_trans h.own.b h4)
  · exact blk_far h.xx (by have := h.nx; simp only []; omega) _
  · exact blk_far h.yy (by have := h.ny; simp only []; omega) _
theorem UncSt.drew {w W : World} {lo hi g n cap : Nat} {s : List (List Int)} {bx by_ a b c d : Nat} (h : UncSt w W lo hi g n cap s bx by_ a b c d) : UncSt w W.drew lo hi g n cap s bx by_ a b c d :=
  ⟨h.own.step (below_drew (Below.refl _ _)), below_drew h.bel, h.xx, h.yy, h.nx, h.ny, h.len, h.rows⟩
theorem UncSt.drewN {w W : World} {lo hi g n cap : Nat} {s : List (List Int)} {bx by_ a b c d : Nat} (h : UncSt w W lo hi g n cap s bx by_ a b c d) (m : Nat) : UncSt w (W.drewN m) lo hi g n cap s bx by_ a b c d :=
  ⟨h.own.step (pw_below_drewN (Below.refl _ _) m), pw_below_drewN h.bel m, h.xx, h.yy, h.nx, h.ny, h.len, h.rows⟩
end Go.Proofs.Ytllnieknogficaa.K
