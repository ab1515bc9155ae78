/-
Part 3 of the proof of the law FnExactGluePlans: what the Go functions that it reaches come to, each proved of the given program; no condition beside those that each theorem names.
-/
import Derived.Deep.Matrix
import Derived.ProofKit
import Derived.Lib.SmallJoins
import Derived.Test.YtllnieknogficaaMFnExactGluePlans1
import Derived.Test.YtllnieknogficaaMFnExactGluePlans2
namespace Go.Proofs.Ytllnieknogficaa.K
open Go.RowKit Go.Proofs.YtllnieknogficaaW.PrintWords Go.Proofs.YtllnieknogficaaW.PrintLast Go.Proofs.YtllnieknogficaaW.PrintMore
attribute [local go_sem] max2_int min2_int max_two min_two max_three min_three max_four min_four   -- for this text's walks alone
set_option linter.unusedVariables false
set_option linter.unusedSimpArgs false

/-! ### impl_GluePlans: function 63 -/
/-- What is glued of the first so many columns and rows. -/
def glueTo (cols rows : List (List Int)) (n : Nat) : Nat → Option (List (List Int))
  | 0 => some (impl_square.tab (fun _ _ => 0) n n)
  | m + 1 => (glueTo cols rows n m).bind fun s => impl_carry.go (n + n + 1) s (cols.getD m []) (rows.getD m []) 0 0
theorem glueTo_some (cols rows : List (List Int)) (n : Nat) : ∀ (m i : Nat) (r : List (List Int)), glueTo cols rows n m = some r → i ≤ m → ∃ s, glueTo cols rows n i = some s
  | 0, i, r, h, hi => by obtain rfl : i = 0 := Nat.le_zero.1 hi; exact ⟨_, h⟩
  | m + 1, i, r, h, hi => by
    by_cases e : i = m + 1
    · subst e; exact ⟨_, h⟩
    · simp only [glueTo] at h
      obtain ⟨s, h1, _⟩ := Option.bind_eq_some_iff.mp h
      exact glueTo_some cols rows n m i s h1 (by omega)
def glueOk (m cols rows : List (List Int)) : Prop := m.length ≤ 1048576 ∧ cols.length ≤ rows.length ∧ rows.length ≤ 1048576 ∧ (∀ r ∈ cols, r.length ≤ 1048576) ∧ ∀ r ∈ rows, r.length ≤ 1048576
instance (m cols rows : List (List Int)) : Decidable (glueOk m cols rows) := by unfold glueOk; infer_instance
def impl_GluePlans.rest (m cols rows : List (List Int)) : Option (List (List Int) × Bool) :=
  if glueOk m cols rows then ((glueTo cols rows m.length cols.length).bind fun out => (impl_isPlan.f out).bind fun t => if t = true then some (out, true) else some ([], false)) else none
def impl_GluePlans.f (k : Nat) (l0 l1 : List (List Int)) : Option (List (List Int) × Bool) :=
  (impl_isPlan.f l0).bind fun t1 => if t1 = true then ((impl_isPlan.f l1).bind fun t2 => if t2 = true then ((impl_turn.f k l0).bind fun cols => (impl_rowSums.f k cols).bind fun s1 => (impl_rowSums.f k l1).bind fun s2 => (slices_Equal_int_int.f k s1 s2).bind fun t3 => if t3 = true then impl_GluePlans.rest l0 cols l1 else some ([], false)) else some ([], false)) else some ([], false)
theorem impl_GluePlans.mono : ∀ a0 a1 k, LeO (impl_GluePlans.f k a0 a1) (impl_GluePlans.f (k + 1) a0 a1) := by
  intro a0 a1 k
  unfold impl_GluePlans.f
  repeat' first
    | (with_reducible exact impl_turn.mono _ _)
    | (with_reducible exact impl_rowSums.mono _ _)
    | (with_reducible exact slices_Equal_int_int.mono _ _ _)
    | (with_reducible exact LeO.refl _)
    | (with_reducible exact LeO.none _)
    | (with_reducible refine LeO.ite ?_ ?_)
    | (with_reducible refine LeO.bind ?_ (fun _ => ?_))
theorem impl_GluePlans.zero (W : World) (i j : Int) : Calls Try.prog 163 #[.int .i64 i, .int .i64 j] W fun e w' => e = .returned (.int .i64 0) ∧ Drawn0 W w' := by
  go_enter Try.func163, Try.ntmps163
  go_wp2
  go_ret
  exact ⟨rfl, ⟨0, rfl⟩⟩
set_option maxHeartbeats 8000000 in
set_option maxRecDepth 100000 in
theorem impl_GluePlans.calls (k : Nat) (A0 : Option Addr) (c0 : Nat) (l0 : List (List Int)) (A1 : Option Addr) (c1 : Nat) (l1 : List (List Int)) (r1 : List (List Int)) (r2 : Bool) (w : World) (hr0 : Kd.C (Kd.slice 3 (Kd.int .i64)) w A0 l0.length l0) (hc0 : l0.length ≤ c0) (hr1 : Kd.C (Kd.slice 3 (Kd.int .i64)) w A1 l1.length l1) (hc1 : l1.length ≤ c1) (h : impl_GluePlans.f k l0 l1 = some (r1, r2)) :
    Calls Try.prog 63 #[.slice A0 l0.length c0, .slice A1 l1.length c1] w fun e w' => ∃ v0_ : Value, e = .returned (.tuple #[v0_, .bool r2]) ∧ Kd.S (Kd.slice 3 (Kd.int .i64)) 24 w' w.heap.size (fun _ => True) v0_ r1 ∧ Below w.heap.size w w' := by
  have HR0 := Aside0.mk hr0
  have HC0 := Aside0.mk hc0
  have HR1 := Aside0.mk hr1
  have HC1 := Aside0.mk hc1
  unfold impl_GluePlans.f at h
  obtain ⟨t1, h1, h2⟩ := Option.bind_eq_some_iff.mp h
  have H1 := Aside0.mk h1
  have H2 := Aside0.mk h2
  clear hr0 hc0 hr1 hc1 h h1 h2
  go_enter Try.func63, Try.ntmps63
  cases t1 with
  | false =>
    have H := H2.out
    rw [if_neg (by decide)] at H
    injection H with H
    injection H with e1 e2
    subst e1 e2
    clear H2
    go_wp2_with (go_at_call 118; (with_reducible refine (impl_isPlan.calls _ _ l0 false _ HR0.out HC0.out H1.out).mono ?_); rintro e w1 ⟨rfl, hb_⟩; have KW1 := Aside0.mk hb_; clear hb_)
    go_ret2
    exact ⟨_, rfl, Kd.S_nil _ _ _ _ _, KW1.out⟩
  | true =>
    have H := H2.out
    clear H2
    rw [if_pos rfl] at H
    obtain ⟨t2, h3, h4⟩ := Option.bind_eq_some_iff.mp H
    have H3 := Aside0.mk h3
    have H4 := Aside0.mk h4
    clear H h3 h4
    cases t2 with
    | false =>
      have H := H4.out
      rw [if_neg (by decide)] at H
      injection H with H
      injection H with e1 e2
      subst e1 e2
      clear H4
      go_wp2_with (go_at_call 118; (with_reducible refine (impl_isPlan.calls _ _ l0 true _ HR0.out HC0.out H1.out).mono ?_); rintro e w1 ⟨rfl, hb_⟩; have KW1 := Aside0.mk hb_; clear hb_; apply StopI)
      unfold Stop
      go_wp2_with (go_at_call 118; (with_reducible refine (impl_isPlan.calls _ _ l1 false _ (Kd.C_below HR1.out KW1.out) HC1.out H3.out).mono ?_); rintro e w2 ⟨rfl, hb_⟩; have KW2 := Aside0.mk (below_step KW1.out hb_); clear hb_)
      go_ret2
      exact ⟨_, rfl, Kd.S_nil _ _ _ _ _, KW2.out⟩
    | true =>
      have H := H4.out
      clear H4
      rw [if_pos rfl] at H
      obtain ⟨cols, h5, H⟩ := Option.bind_eq_some_iff.mp H
      obtain ⟨s1, h6, H⟩ := Option.bind_eq_some_iff.mp H
      obtain ⟨s2, h7, H⟩ := Option.bind_eq_some_iff.mp H
      obtain ⟨t3, h8, h9⟩ := Option.bind_eq_some_iff.mp H
      have H5 := Aside0.mk h5
      have H6 := Aside0.mk h6
      have H7 := Aside0.mk h7
      have H8 := Aside0.mk h8
      have H9 := Aside0.mk h9
      clear H h5 h6 h7 h8 h9
      go_wp2_with (go_at_call 118; (with_reducible refine (impl_isPlan.calls _ _ l0 true _ HR0.out HC0.out H1.out).mono ?_); rintro e w1 ⟨rfl, hb_⟩; have KW1 := Aside0.mk hb_; clear hb_; apply StopI)
      unfold Stop
      go_wp2_with (go_at_call 118; (with_reducible refine (impl_isPlan.calls _ _ l1 true _ (Kd.C_below HR1.out KW1.out) HC1.out H3.out).mono ?_); rintro e w2 ⟨rfl, hb_⟩; have KW2 := Aside0.mk (below_step KW1.out hb_); clear hb_; apply StopI)
      unfold Stop
      go_wp2_with (go_at_call 127; (with_reducible refine (impl_turn.calls k _ _ l0 cols _ (Kd.C_below HR0.out KW2.out) HC0.out H5.out).mono ?_); rintro e w3 ⟨v3, rfl, ho_, hb_⟩; have O3 := Aside0.mk (OwnSS.new ho_ KW2.out); have KW3 := Aside0.mk (below_step KW2.out hb_); clear ho_ hb_; apply StopI)
      obtain ⟨A3, c3, e_, hl_⟩ := O3.out.reads
      subst e_
      have L3 := Aside0.mk hl_
      clear hl_
      unfold Stop
      go_wp2_with (go_at_call 161; (with_reducible refine (impl_rowSums.calls k _ _ cols s1 _ O3.out.c L3.out H6.out).mono ?_); rintro e w4 ⟨v4, rfl, ho_, hb_⟩; have O4 := Aside0.mk (OwnR.new ho_ KW3.out); have KW4 := Aside0.mk (below_step KW3.out hb_); clear ho_ hb_ O3; apply StopI)
      obtain ⟨A4, c4, e_, hl_⟩ := O4.out.reads
      subst e_
      have L4 := Aside0.mk hl_
      clear hl_
      unfold Stop
      go_wp2_with (go_at_call 161; (with_reducible refine (impl_rowSums.calls k _ _ l1 s2 _ (Kd.C_below HR1.out KW4.out) HC1.out H7.out).mono ?_); rintro e w5 ⟨v5, rfl, ho_, hb_⟩; have O5 := Aside0.mk (OwnR.new ho_ KW4.out); have n_ := Aside0.mk (O4.out.step hb_); clear O4; have O4 := n_; clear n_; have KW5 := Aside0.mk (below_step KW4.out hb_); clear ho_ hb_; apply StopI)
      obtain ⟨A5, c5, e_, hl_⟩ := O5.out.reads
      subst e_
      have L5 := Aside0.mk hl_
      clear hl_
      cases t3 with
      | false =>
        have H := H9.out
        rw [if_neg (by decide)] at H
        injection H with H
        injection H with e1 e2
        subst e1 e2
        clear H9
        unfold Stop
        go_wp2_with (go_at_call 160; (with_reducible refine (slices_Equal_int_int.calls k _ _ s1 _ _ s2 false _ O4.out.c L4.out O5.out.c L5.out H8.out).mono ?_); rintro e w6 ⟨rfl, hd_⟩; have KW6 := Aside0.mk (below_step KW5.out hd_.below); clear hd_)
        go_ret2
        exact ⟨_, rfl, Kd.S_nil _ _ _ _ _, KW6.out⟩
      | true =>
        have H := H9.out
        clear H9
        rw [if_pos rfl] at H
        unfold impl_GluePlans.rest at H
        by_cases hok : glueOk l0 cols l1
        rotate_left
        · rw [if_neg hok] at H
          cases H
        rw [if_pos hok] at H
        obtain ⟨out, h10, H⟩ := Option.bind_eq_some_iff.mp H
        obtain ⟨t4, h11, h12⟩ := Option.bind_eq_some_iff.mp H
        have H10 := Aside0.mk h10
        have H11 := Aside0.mk h11
        have H12 := Aside0.mk h12
        obtain ⟨k1, k2, k3, k4, k5⟩ := hok
        have K1 := Aside0.mk k1
        have K4 := Aside0.mk k4
        have K5 := Aside0.mk k5
        clear H h10 h11 h12 k1 k4 k5
        unfold Stop
        go_wp2_with (first | (go_at_call 160; (with_reducible refine (slices_Equal_int_int.calls k _ _ s1 _ _ s2 true _ O4.out.c L4.out O5.out.c L5.out H8.out).mono ?_); rintro e w6 ⟨rfl, hd_⟩; have KW6 := Aside0.mk (below_step KW5.out hd_.below); clear hd_) | (refine (impl_square.calls (fun _ _ => 0) 163 #[] (by intro args w; rfl) l0.length w6 K1.out (fun W i j _ => impl_GluePlans.zero W i j)).mono ?_; rintro e w7 ⟨v, rfl, hS, hB⟩; apply StopI))
        unfold Stop
        have O0 := Aside0.mk (OwnSS.new hS KW6.out)
        have HB := Aside0.mk (below_step KW6.out hB)
        have Z6 := Aside0.mk hB.size
        clear hS hB O4 O5
        obtain ⟨A, c, e_, hle⟩ := O0.out.reads
        subst e_
        obtain ⟨n, hn⟩ : ∃ n, (impl_square.tab (fun _ _ => 0) l0.length l0.length).length = n := ⟨_, rfl⟩
        rw [hn] at O0 ⊢
        have HN := Aside0.mk hn
        obtain ⟨w8, hw8⟩ : ∃ w8, w7.alloc (.cells #[.slice A n c] 37 (0, 0)) = w8 := ⟨_, rfl⟩
        have HB8 := Aside0.mk (show Below w.heap.size w w8 from by rw [← hw8]; exact below_alloc HB.out _)
        have HI8 := Aside0.mk (show Kd.S (Kd.slice 3 (Kd.int .i64)) 24 w8 w.heap.size (fun k => w6.heap.size ≤ k ∧ k < w7.heap.size) (.slice A n c) (impl_square.tab (fun _ _ => 0) l0.length l0.length) from by rw [← hw8]; exact Kd.S_alloc O0.out.s _)
        have HX8 := Aside0.mk (show w8.heap[w7.heap.size]? = some (.cells #[.slice A n c] 37 (0, 0)) from by rw [← hw8]; show (w7.heap.push _)[w7.heap.size]? = _; simp)
        have HZ8 := Aside0.mk (show w8.heap.size = w7.heap.size + 1 from by rw [← hw8]; show (w7.heap.push _).size = _; simp)
        have HZ7 := Aside0.mk KW6.out.size
        have HW8 := Aside0.mk hw8
        clear hn hw8 O0 HB
        go_wp2_with fail
        rw [HW8.out]
        refine (impl_turn.calls k _ _ l0 cols _ (Kd.C_below HR0.out HB8.out) HC0.out H5.out).mono ?_
        rintro e w9 ⟨vc, rfl, ho_, hb_⟩
        have OC := Aside0.mk (OwnSS.new ho_ HB8.out)
        have HB9 := Aside0.mk (below_step HB8.out hb_)
        have HI9 := Aside0.mk (Kd.S_below HI8.out hb_)
        have HX9 := Aside0.mk (blk_below HX8.out hb_)
        have HZ9 := Aside0.mk (show w7.heap.size + 1 ≤ w8.heap.size from Nat.le_of_eq HZ8.out.symm)
        clear ho_ hb_ HB8 HI8 HX8 HZ8 HW8 L3 L4 L5
        obtain ⟨Ac, cc, e_, hlc⟩ := OC.out.reads
        subst e_
        have LC := Aside0.mk hlc
        clear hlc
        obtain ⟨gb, hgb⟩ : ∃ gb, w7.heap.size = gb := ⟨_, rfl⟩
        rw [hgb] at HX9 HZ9 HI9 Z6 ⊢
        clear hgb
        have K2 := Aside0.mk k2
        have K3 := Aside0.mk k3
        clear k2 k3
        go_wp2_with fail
        go_loopg [7, 8, 32] cols.length (fun gg _ _ s32 W => ∃ (i : Nat) (s : List (List Int)), s32 = .int .i64 (i : Int) ∧ i ≤ cols.length ∧ cols.length - i ≤ gg ∧ Aside0 (glueTo cols l1 l0.length i = some s) ∧ Aside0 (Kd.S (Kd.slice 3 (Kd.int .i64)) 24 W w.heap.size (fun k => w6.heap.size ≤ k ∧ k < gb) (.slice A n c) s) ∧ Aside0 (W.heap[gb]? = some (.cells #[.slice A n c] 37 (0, 0))) ∧ Aside0 (OwnSS w W w8.heap.size w9.heap.size (.slice Ac cols.length cc) cols) ∧ Aside0 (Below w.heap.size w W))
        case atStart => exact ⟨0, _, rfl, Nat.zero_le _, by omega, ⟨rfl⟩, HI9, HX9, OC, HB9⟩
        case round =>
          clear HI9 HX9 HB9 OC
          obtain ⟨i, s, rfl, hi, hgg, HG, HI, HX, OC, HB⟩ := hrel
          by_cases hlt : i < cols.length
          · have hltz : (i : Int) < (cols.length : Int) := by omega
            have hltz2 : (i : Int) < (l1.length : Int) := by have := K2.out; omega
            have hiz : (0 : Int) ≤ (i : Int) := by omega
            have hcl : cols.length ≤ 1048576 := by have := K2.out; have := K3.out; omega
            obtain ⟨ad, Ai, ci, e_, cx, hl_, hC_⟩ := at_L2 OC.out.c (i : Int) hiz hltz
            subst e_
            rw [rdL_nat_getD] at hC_ hl_ cx
            rw [Int.toNat_natCast] at cx
            obtain ⟨ad1, Aj, cj, e_, cy, hl1_, hC1_⟩ := at_L2 HR1.out (i : Int) hiz hltz2
            subst e_
            have cy2 := pw_cell_below HB.out cy
            rw [rdL_nat_getD] at hC1_ hl1_ cy2
            rw [Int.toNat_natCast] at cy2
            obtain ⟨s', hs'⟩ := glueTo_some cols l1 l0.length cols.length (i + 1) out H10.out (by omega)
            have HS' := Aside0.mk hs'
            simp only [glueTo] at hs'
            obtain ⟨s0, g1, g2⟩ := Option.bind_eq_some_iff.mp hs'
            rw [HG.out] at g1
            injection g1 with g1
            subst g1
            obtain ⟨ra, hra⟩ : ∃ ra, cols.getD i [] = ra := ⟨_, rfl⟩
            obtain ⟨rb, hrb⟩ : ∃ rb, l1.getD i [] = rb := ⟨_, rfl⟩
            rw [hra] at hC_ hl_ cx g2
            rw [hrb] at hC1_ hl1_ cy2 g2
            have hra2 : ra.length < 17592186044416 := by
              have : ra.length ≤ 1048576 := K4.out ra (by rw [← hra, List.getD_eq_getElem?_getD, List.getElem?_eq_getElem hlt]; exact List.getElem_mem hlt)
              omega
            have hrb2 : rb.length < 17592186044416 := by
              have hlt3 : i < l1.length := by omega
              have : rb.length ≤ 1048576 := K5.out rb (by rw [← hrb, List.getD_eq_getElem?_getD, List.getElem?_eq_getElem hlt3]; exact List.getElem_mem hlt3)
              omega
            have G2 := Aside0.mk g2
            have CA := Aside0.mk hC_
            have CB := Aside0.mk (Kd.C_below hC1_ HB.out)
            have LA := Aside0.mk hl_
            have LBb := Aside0.mk hl1_
            have RA2 := Aside0.mk hra2
            have RB2 := Aside0.mk hrb2
            have ZB := Aside0.mk (blk_lt HX.out)
            clear hs' g2 hra hrb hC_ hl_ hC1_ hl1_ cy hra2 hrb2 HG
            go_wp2_with (refine (impl_carry.calls 165 #[.pointer (some ⟨gb, 0, none⟩)] (by intro args w; rfl) (fun s W => Kd.S (Kd.slice 3 (Kd.int .i64)) 24 W w.heap.size (fun k => w6.heap.size ≤ k ∧ k < gb) (.slice A n c) s ∧ W.heap[gb]? = some (.cells #[.slice A n c] 37 (0, 0))) (fun q => w6.heap.size ≤ q ∧ q < gb + 1) _ _ _ ra _ _ rb _ s' w _ ?d1 ?d2 ?d3 LA.out ?d4 LBb.out ?d5 ?d6 ?d7 ?d8 ?d9 G2.out).mono ?_; (case d1 => exact HB.out); (case d2 => intro q hq; have := ZB.out; omega); (case d3 => exact CA.out); (case d4 => exact CB.out); (case d5 => exact RA2.out); (case d6 => exact RB2.out); (case d7 => exact ⟨HI.out, HX.out⟩); (case d8 => intro s W W' h1 h2 h3; exact ⟨Kd.S_step h1.1 (fun k hk _ => h3 k ⟨hk.1, by omega⟩), (h3 _ ⟨Z6.out, by omega⟩).trans h1.2⟩); (case d9 => intro W s i j u h1 h2 h3 h4 h5; refine (impl_GluePlans_2.calls w W gb n c i j u A _ s h1.1 h1.2 (fun hk => by omega) h3 h4 h5).mono ?_; rintro e W' ⟨rfl, h6, h7, h8⟩; exact ⟨rfl, ⟨h6, (h8.2 _ (blk_lt h1.2) (fun hk => by omega)).trans h1.2⟩, h7, h8.mono (fun k hk => ⟨hk.1, by omega⟩)⟩); rintro e w12 ⟨rfl, hi12, hb12, hk12⟩; have n_ := Aside0.mk (OC.out.kept hk12 (fun k h1 h2 h3 => by have := HZ9.out; omega)); clear OC HI HX HB; have OC := n_; have HI := Aside0.mk hi12.1; have HX := Aside0.mk hi12.2; have HB := Aside0.mk hb12; clear n_ hi12 hb12 hk12)
            go_roundg (cols.length - (i + 1))
            case measure => omega
            case rel => exact ⟨i + 1, s', by go_num, by omega, by omega, HS', HI, HX, OC, HB⟩
          · have hltz : ¬ (i : Int) < (cols.length : Int) := by omega
            have hie : i = cols.length := by omega
            subst hie
            have hso := HG.out
            rw [H10.out] at hso
            injection hso with hso
            subst hso
            have cbx : wr.cell? ⟨gb, 0, none⟩ = some (.slice A n c) := (blk_cell HX.out 0).trans rfl
            obtain ⟨hno, hnc, hC⟩ := Kd.S_reads' HI.out
            have HNO := Aside0.mk hno
            have HNC := Aside0.mk hnc
            have HCO := Aside0.mk hC
            have HI2 := Aside0.mk (Kd.S_mono (ok' := fun _ => True) HI.out (fun _ _ => trivial))
            clear hno hnc hC
            cases t4 with
            | false =>
              have H := H12.out
              rw [if_neg (by decide)] at H
              injection H with H
              injection H with e1 e2
              subst e1 e2
              clear H12
              go_wp2_with (refine (show Calls _ _ #[.slice A n c] _ _ from by rw [HNO.out]; exact impl_isPlan.calls A c out false _ HCO.out (by rw [← HNO.out]; exact HNC.out) H11.out).mono ?_; rintro e w13 ⟨rfl, hb_⟩; have KW13 := Aside0.mk (below_step HB.out hb_); clear hb_)
              go_ret2
              exact ⟨_, rfl, Kd.S_nil _ _ _ _ _, KW13.out⟩
            | true =>
              have H := H12.out
              rw [if_pos rfl] at H
              injection H with H
              injection H with e1 e2
              subst e1 e2
              clear H12
              go_wp2_with (refine (show Calls _ _ #[.slice A n c] _ _ from by rw [HNO.out]; exact impl_isPlan.calls A c out true _ HCO.out (by rw [← HNO.out]; exact HNC.out) H11.out).mono ?_; rintro e w13 ⟨rfl, hb_⟩; have KW13 := Aside0.mk (below_step HB.out hb_); have S13 := Aside0.mk (Kd.S_below HI2.out hb_); have cbx13 := pw_cell_below hb_ cbx; clear hb_)
              go_ret2
              exact ⟨_, rfl, S13.out, KW13.out⟩

end Go.Proofs.Ytllnieknogficaa.K
namespace Go.Proofs.Ytllnieknogficaa.K
open Go.RowKit Go.Proofs.YtllnieknogficaaW.PrintWords Go.Proofs.YtllnieknogficaaW.PrintLast Go.Proofs.YtllnieknogficaaW.PrintMore
attribute [local go_sem] max2_int min2_int max_two min_two max_three min_three max_four min_four   -- for this text's walks alone
set_option linter.unusedVariables false
set_option linter.unusedSimpArgs false

/-! ### spec_GluePlans: function 62 -/
def addRow (s : List (List Int)) (i : Nat) (row : List Int) : Nat → List (List Int)
  | 0 => s
  | j + 1 => uncP (addRow s i row j) i j (row.getD j 0)
def addTab (s R : List (List Int)) : Nat → List (List Int)
  | 0 => s
  | i + 1 => addRow (addTab s R i) i (R.getD i []) (R.getD i []).length
def sqr (n : Nat) (s : List (List Int)) : Prop := s.length = n ∧ ∀ r ∈ s, r.length = n
instance (n : Nat) (s : List (List Int)) : Decidable (sqr n s) := by unfold sqr; infer_instance
theorem addRow_sqr (n : Nat) (s : List (List Int)) (i : Nat) (row : List Int) (h : sqr n s) : ∀ j, sqr n (addRow s i row j)
  | 0 => h
  | j + 1 => by
    obtain ⟨h1, h2⟩ := addRow_sqr n s i row h j
    exact put2_shape h1 h2 i j _
theorem addTab_sqr (n : Nat) (s R : List (List Int)) (h : sqr n s) : ∀ i, sqr n (addTab s R i)
  | 0 => h
  | i + 1 => addRow_sqr n _ i _ (addTab_sqr n s R h i) _
def glueS (k : Nat) (m n : List (List Int)) : Nat → Option (List (List Int))
  | 0 => spec_plEmpty.f k (m.length : Int)
  | q + 1 => (glueS k m n q).bind fun s => (spec_plColumn.f k m (q : Int)).bind fun c => (spec_plMonotone.f c (n.getD q [])).bind fun R => if sqr m.length s ∧ sqr m.length R then some (addTab s R R.length) else none
theorem glueS_some (k : Nat) (m n : List (List Int)) : ∀ (q i : Nat) (r : List (List Int)), glueS k m n q = some r → i ≤ q → ∃ s, glueS k m n i = some s
  | 0, i, r, h, hi => by obtain rfl : i = 0 := Nat.le_zero.1 hi; exact ⟨_, h⟩
  | q + 1, i, r, h, hi => by
    by_cases e : i = q + 1
    · subst e; exact ⟨_, h⟩
    · simp only [glueS] at h
      obtain ⟨s, h1, _⟩ := Option.bind_eq_some_iff.mp h
      exact glueS_some k m n q i s h1 (by omega)
theorem glueS_mono (m n : List (List Int)) (k : Nat) : ∀ q, LeO (glueS k m n q) (glueS (k + 1) m n q)
  | 0 => spec_plEmpty.mono _ _
  | q + 1 => by
    simp only [glueS]
    refine LeO.bind (glueS_mono m n k q) (fun _ => ?_)
    exact LeO.bind (spec_plColumn.mono _ _ _) (fun _ => LeO.refl _)
def spec_GluePlans.rest (k : Nat) (l0 l1 : List (List Int)) : Option (List (List Int) × Bool) :=
  if l0.length ≤ l1.length ∧ l0.length ≤ 1048576 then ((glueS k l0 l1 l0.length).bind fun out => (spec_plGood.f k out).bind fun t => if t = true then some (out, true) else some ([], false)) else none
def spec_GluePlans.f (k : Nat) (l0 l1 : List (List Int)) : Option (List (List Int) × Bool) :=
  (spec_plGood.f k l0).bind fun t1 => if t1 = true then ((spec_plGood.f k l1).bind fun t2 => if t2 = true then ((spec_plSums.f k l0).bind fun s1 => (spec_plSums.f k l1).bind fun s2 => (spec_l1Same.f k s1.2 s2.1).bind fun t3 => if t3 = true then spec_GluePlans.rest k l0 l1 else some ([], false)) else some ([], false)) else some ([], false)
theorem spec_GluePlans.mono : ∀ a0 a1 k, LeO (spec_GluePlans.f k a0 a1) (spec_GluePlans.f (k + 1) a0 a1) := by
  intro a0 a1 k
  unfold spec_GluePlans.f spec_GluePlans.rest
  repeat' first
    | (with_reducible exact spec_plGood.mono _ _)
    | (with_reducible exact spec_plSums.mono _ _)
    | (with_reducible exact spec_l1Same.mono _ _ _)
    | (with_reducible exact glueS_mono _ _ _ _)
    | (with_reducible exact LeO.refl _)
    | (with_reducible exact LeO.none _)
    | (with_reducible refine LeO.ite ?_ ?_)
    | (with_reducible refine LeO.bind ?_ (fun _ => ?_))
theorem OwnSS.rowF {w W : World} {lo hi n c : Nat} {A : Option Addr} {R : List (List Int)} (h : OwnSS w W lo hi (.slice A n c) R) (i : Nat) (hi2 : i < R.length) :
    ∃ (g : Nat) (Ai : Option Addr) (ci : Nat), A = some ⟨g, 0, none⟩ ∧ W.cell? ⟨g, i, none⟩ = some (.slice Ai (R.getD i []).length ci) ∧ (R.getD i []).length ≤ ci ∧ Kd.F (Kd.int .i64) W (fun k => lo ≤ k ∧ k < hi) Ai (R.getD i []).length (R.getD i []) := by
  obtain ⟨hn, hle, hC⟩ := Kd.S_reads' h.s
  obtain ⟨g, cap, hv, hb, hl, hcells⟩ := Kd.R_form (Kd.S_R h.s) (by omega)
  injection hv with e1 e2 e3
  subst e1
  obtain ⟨oki, cs, hcl, hM, hcc, hok, hbk⟩ := Kd.S_borrow h.s [] (i : Int) (by omega) (by omega)
  rw [Int.toNat_natCast] at hM hcc hbk
  obtain ⟨u, rfl, hR⟩ := hM
  have hu := hcc 0 _ rfl
  obtain ⟨Ai, ci, rfl, hli, _⟩ := Kd.R_reads hR
  refine ⟨g, Ai, ci, rfl, ?_, hli, Kd.F_mono (Kd.R_F hR) (fun k hk => (hok k hk).1)⟩
  have h5 : (⟨g, 0, none⟩ : Addr).add (i * 1 + 0) = ⟨g, i, none⟩ := by rw [Nat.mul_one, Nat.add_zero, add_plain]
  rw [← h5]; exact hu
set_option maxHeartbeats 8000000 in
set_option maxRecDepth 100000 in
theorem spec_GluePlans.calls (k : Nat) (A0 : Option Addr) (c0 : Nat) (l0 : List (List Int)) (A1 : Option Addr) (c1 : Nat) (l1 : List (List Int)) (r1 : List (List Int)) (r2 : Bool) (w : World) (hr0 : Kd.C (Kd.slice 3 (Kd.int .i64)) w A0 l0.length l0) (hc0 : l0.length ≤ c0) (hr1 : Kd.C (Kd.slice 3 (Kd.int .i64)) w A1 l1.length l1) (hc1 : l1.length ≤ c1) (h : spec_GluePlans.f k l0 l1 = some (r1, r2)) :
    Calls Try.prog 62 #[.slice A0 l0.length c0, .slice A1 l1.length c1] w fun e w' => ∃ v0_ : Value, e = .returned (.tuple #[v0_, .bool r2]) ∧ Kd.S (Kd.slice 3 (Kd.int .i64)) 24 w' w.heap.size (fun _ => True) v0_ r1 ∧ Below w.heap.size w w' := by
  have HR0 := Aside0.mk hr0
  have HC0 := Aside0.mk hc0
  have HR1 := Aside0.mk hr1
  have HC1 := Aside0.mk hc1
  unfold spec_GluePlans.f at h
  obtain ⟨t1, h1, h2⟩ := Option.bind_eq_some_iff.mp h
  have H1 := Aside0.mk h1
  have H2 := Aside0.mk h2
  clear hr0 hc0 hr1 hc1 h h1 h2
  go_enter Try.func62, Try.ntmps62
  cases t1 with
  | false =>
    have H := H2.out
    rw [if_neg (by decide)] at H
    injection H with H
    injection H with e1 e2
    subst e1 e2
    clear H2
    go_wp2_with (go_at_call 125; (with_reducible refine (spec_plGood.calls k _ _ l0 false _ HR0.out HC0.out H1.out).mono ?_); rintro e w1 ⟨rfl, hd_⟩; have KW1 := Aside0.mk hd_.below; clear hd_)
    go_ret2
    exact ⟨_, rfl, Kd.S_nil _ _ _ _ _, KW1.out⟩
  | true =>
    have H := H2.out
    clear H2
    rw [if_pos rfl] at H
    obtain ⟨t2, h3, h4⟩ := Option.bind_eq_some_iff.mp H
    have H3 := Aside0.mk h3
    have H4 := Aside0.mk h4
    clear H h3 h4
    cases t2 with
    | false =>
      have H := H4.out
      rw [if_neg (by decide)] at H
      injection H with H
      injection H with e1 e2
      subst e1 e2
      clear H4
      go_wp2_with (go_at_call 125; (with_reducible refine (spec_plGood.calls k _ _ l0 true _ HR0.out HC0.out H1.out).mono ?_); rintro e w1 ⟨rfl, hd_⟩; have KW1 := Aside0.mk hd_.below; clear hd_; apply StopI)
      unfold Stop
      go_wp2_with (go_at_call 125; (with_reducible refine (spec_plGood.calls k _ _ l1 false _ (Kd.C_below HR1.out KW1.out) HC1.out H3.out).mono ?_); rintro e w2 ⟨rfl, hd_⟩; have KW2 := Aside0.mk (below_step KW1.out hd_.below); clear hd_)
      go_ret2
      exact ⟨_, rfl, Kd.S_nil _ _ _ _ _, KW2.out⟩
    | true =>
      have H := H4.out
      clear H4
      rw [if_pos rfl] at H
      obtain ⟨⟨sa, sb⟩, h5, Hx⟩ := Option.bind_eq_some_iff.mp H
      obtain ⟨⟨sc, sd⟩, h6, Hy⟩ := Option.bind_eq_some_iff.mp Hx
      obtain ⟨t3, h8, h9⟩ := Option.bind_eq_some_iff.mp Hy
      have H5 := Aside0.mk h5
      have H6 := Aside0.mk h6
      have H8 := Aside0.mk h8
      have H9 := Aside0.mk h9
      clear H Hx Hy h5 h6 h8 h9
      go_wp2_with (go_at_call 125; (with_reducible refine (spec_plGood.calls k _ _ l0 true _ HR0.out HC0.out H1.out).mono ?_); rintro e w1 ⟨rfl, hd_⟩; have KW1 := Aside0.mk hd_.below; clear hd_; apply StopI)
      unfold Stop
      go_wp2_with (go_at_call 125; (with_reducible refine (spec_plGood.calls k _ _ l1 true _ (Kd.C_below HR1.out KW1.out) HC1.out H3.out).mono ?_); rintro e w2 ⟨rfl, hd_⟩; have KW2 := Aside0.mk (below_step KW1.out hd_.below); clear hd_; apply StopI)
      unfold Stop
      go_wp2_with (go_at_call 157; (with_reducible refine (spec_plSums.calls k _ _ l0 sa sb _ (Kd.C_below HR0.out KW2.out) HC0.out H5.out).mono ?_); rintro e w3 ⟨va, vb, rfl, hoa_, hob_, hb_⟩; have O3 := Aside0.mk (OwnR.new (Kd.R_mono hob_ (fun _ _ => trivial)) KW2.out); obtain ⟨Aa, ca, ea_⟩ := Kd.R_slice hoa_; have EA := Aside0.mk ea_; have KW3 := Aside0.mk (below_step KW2.out hb_); clear hoa_ hob_ hb_ ea_; apply StopI)
      obtain ⟨A3, c3, e_, hl_⟩ := O3.out.reads
      subst e_
      have e_ := EA.out
      subst e_
      have L3 := Aside0.mk hl_
      clear hl_ EA
      unfold Stop
      go_wp2_with (go_at_call 157; (with_reducible refine (spec_plSums.calls k _ _ l1 sc sd _ (Kd.C_below HR1.out KW3.out) HC1.out H6.out).mono ?_); rintro e w4 ⟨va, vb, rfl, hoa_, hob_, hb_⟩; have O4 := Aside0.mk (OwnR.new (Kd.R_mono hoa_ (fun _ _ => trivial)) KW3.out); obtain ⟨Ab, cb, ea_⟩ := Kd.R_slice hob_; have EA := Aside0.mk ea_; have n_ := Aside0.mk (O3.out.step hb_); clear O3; have O3 := n_; clear n_; have KW4 := Aside0.mk (below_step KW3.out hb_); clear hoa_ hob_ hb_ ea_; apply StopI)
      obtain ⟨A4, c4, e_, hl_⟩ := O4.out.reads
      subst e_
      have e_ := EA.out
      subst e_
      have L4 := Aside0.mk hl_
      clear hl_ EA
      cases t3 with
      | false =>
        have H := H9.out
        rw [if_neg (by decide)] at H
        injection H with H
        injection H with e1 e2
        subst e1 e2
        clear H9
        unfold Stop
        go_wp2_with (go_at_call 158; (with_reducible refine (spec_l1Same.calls k _ _ sb _ _ sc false _ O3.out.c L3.out O4.out.c L4.out H8.out).mono ?_); rintro e w6 ⟨rfl, hd_⟩; have KW6 := Aside0.mk (below_step KW4.out hd_.below); clear hd_)
        go_ret2
        exact ⟨_, rfl, Kd.S_nil _ _ _ _ _, KW6.out⟩
      | true =>
        have H := H9.out
        clear H9
        rw [if_pos rfl] at H
        unfold spec_GluePlans.rest at H
        by_cases hok : l0.length ≤ l1.length ∧ l0.length ≤ 1048576
        rotate_left
        · rw [if_neg hok] at H
          cases H
        rw [if_pos hok] at H
        obtain ⟨out, h10, Hx⟩ := Option.bind_eq_some_iff.mp H
        obtain ⟨t4, h11, h12⟩ := Option.bind_eq_some_iff.mp Hx
        have H10 := Aside0.mk h10
        have H11 := Aside0.mk h11
        have H12 := Aside0.mk h12
        obtain ⟨k2, k3⟩ := hok
        clear H Hx h10 h11 h12
        obtain ⟨s00, hs00⟩ := glueS_some k l0 l1 l0.length 0 out H10.out (Nat.zero_le _)
        have HS00 := Aside0.mk hs00
        have HS01 := Aside0.mk (show spec_plEmpty.f k (l0.length : Int) = some s00 from HS00.out)
        clear hs00
        unfold Stop
        go_wp2_with (first | (go_at_call 158; (with_reducible refine (spec_l1Same.calls k _ _ sb _ _ sc true _ O3.out.c L3.out O4.out.c L4.out H8.out).mono ?_); rintro e w6 ⟨rfl, hd_⟩; have KW6 := Aside0.mk (below_step KW4.out hd_.below); clear hd_) | (go_at_call 159; (with_reducible refine (spec_plEmpty.calls k (l0.length : Int) s00 _ HS01.out).mono ?_); rintro e w7 ⟨v7, rfl, ho_, hb_⟩; have O7 := Aside0.mk ho_; have KB7 := Aside0.mk hb_; clear ho_ hb_; apply StopI))
        have OUT := Aside0.mk (OwnSS.new O7.out KW6.out)
        have HB := Aside0.mk (below_step KW6.out KB7.out)
        clear O3 O4 O7 L3 L4
        obtain ⟨A, c, e_, hle⟩ := OUT.out.reads
        subst e_
        obtain ⟨n, hn⟩ : ∃ n, s00.length = n := ⟨_, rfl⟩
        rw [hn] at OUT ⊢
        have HLE := Aside0.mk (show n ≤ c by rw [← hn]; exact hle)
        clear hn hle
        unfold Stop
        go_wp2_with fail
        go_loopg [43] l0.length (fun gg s43 W => ∃ (q : Nat) (s : List (List Int)), s43 = .int .i64 (q : Int) ∧ q ≤ l0.length ∧ l0.length - q ≤ gg ∧ Aside0 (glueS k l0 l1 q = some s) ∧ Aside0 (OwnSS w W w6.heap.size w7.heap.size (.slice A n c) s) ∧ Aside0 (Below w.heap.size w W))
        case atStart => exact ⟨0, _, rfl, Nat.zero_le _, by omega, HS00, OUT, HB⟩
        case round =>
          clear HB OUT HS00
          obtain ⟨q, s, rfl, hq, hgg, HG, OUT, HB⟩ := hrel
          by_cases hlt : q < l0.length
          · have hltz : (q : Int) < (l0.length : Int) := by omega
            have hltz2 : (q : Int) < (l1.length : Int) := by omega
            have hqz : (0 : Int) ≤ (q : Int) := by omega
            obtain ⟨s', hs'⟩ := glueS_some k l0 l1 l0.length (q + 1) out H10.out (by omega)
            have HS' := Aside0.mk hs'
            simp only [glueS] at hs'
            obtain ⟨s0, g1, g2⟩ := Option.bind_eq_some_iff.mp hs'
            rw [HG.out] at g1
            injection g1 with g1
            subst g1
            obtain ⟨col, g3, g4⟩ := Option.bind_eq_some_iff.mp g2
            obtain ⟨R, g5, g6⟩ := Option.bind_eq_some_iff.mp g4
            by_cases hsq : sqr l0.length s ∧ sqr l0.length R
            rotate_left
            · rw [if_neg hsq] at g6
              cases g6
            rw [if_pos hsq] at g6
            injection g6 with g6
            obtain ⟨sq1, sq2⟩ := hsq
            have SQ1 := Aside0.mk sq1
            have SQ2 := Aside0.mk sq2
            have G3 := Aside0.mk g3
            have G6 := Aside0.mk g6
            obtain ⟨ad1, Aj, cj, e_, cy, hl1_, hC1_⟩ := at_L2 HR1.out (q : Int) hqz hltz2
            subst e_
            rw [rdL_nat_getD] at hC1_ hl1_ cy
            rw [Int.toNat_natCast] at cy
            obtain ⟨rb, hrb⟩ : ∃ rb, l1.getD q [] = rb := ⟨_, rfl⟩
            rw [hrb] at hC1_ hl1_ cy g5
            have G5 := Aside0.mk g5
            have LBb := Aside0.mk hl1_
            have CB := Aside0.mk hC1_
            have cyr := pw_cell_below HB.out cy
            have ZN := Aside0.mk (show n = l0.length from (Kd.S_reads' OUT.out.s).1.trans sq1.1)
            have KEEP := Aside0.mk (show ∀ w', Below wr.heap.size wr w' → w'.cell? (ad1.add q) = some (.slice Aj rb.length cj) from fun w' hb_ => pw_cell_below hb_ cyr)
            have Z7r := Aside0.mk OUT.out.t
            clear hs' g2 g3 g4 g5 g6 hrb hC1_ hl1_ cy sq1 sq2 HG
            go_wp2_with fail
            have n_ := Aside0.mk (below_drew HB.out)
            have m_ := Aside0.mk (OUT.out.step (below_drew (Below.refl _ _)))
            clear HB OUT
            have HB := n_
            have OUT := m_
            clear n_ m_
            have KR := Aside0.mk (below_drew (Below.refl wr.heap.size wr))
            go_region_held3 (fun w' => w'.cell? (ad1.add q) = some (.slice Aj rb.length cj)) ((refine KEEP.out _ ?_; first | exact KR.out | exact Below.refl _ _)) (first
              | (go_at_call 126; (with_reducible refine (spec_plColumn.calls k _ _ l0 (q : Int) col _ (Kd.C_below HR0.out HB.out) HC0.out G3.out).mono ?_); rintro e w8 ⟨v8, rfl, ho_, hb_⟩; obtain ⟨A8, c8, e8_, hl8_, hC8_⟩ := Kd.R_reads ho_; subst e8_; have C8 := Aside0.mk hC8_; have L8 := Aside0.mk hl8_; have n_ := Aside0.mk (below_step HB.out hb_); have m_ := Aside0.mk (OUT.out.step hb_); have o_ := Aside0.mk (below_step KR.out hb_); clear HB OUT KR ho_ hb_ hl8_ hC8_; have HB := n_; have OUT := m_; have KR := o_; clear n_ m_ o_)
              | (go_at_call 139; (with_reducible refine (spec_plMonotone.calls _ _ col _ _ rb R _ C8.out L8.out (Kd.C_below CB.out HB.out) LBb.out G5.out).mono ?_); rintro e w9 ⟨v9, rfl, ho_, hb_⟩; obtain ⟨A9, c9, e9_⟩ := Kd.S_slice ho_; subst e9_; have OR := Aside0.mk (OwnSS.new ho_ HB.out); have Z8 := Aside0.mk KR.out.size; have n_ := Aside0.mk (below_step HB.out hb_); have m_ := Aside0.mk (OUT.out.step hb_); have o_ := Aside0.mk (below_step KR.out hb_); clear HB OUT KR ho_ hb_; have HB := n_; have OUT := m_; have KR := o_; clear n_ m_ o_))
            have ZL := Aside0.mk SQ2.out.1
            have ZB := Aside0.mk (Nat.le_trans Z7r.out Z8.out)
            have ZW := Aside0.mk OUT.out.b
            go_wp2_with fail
            have SQ0 := Aside0.mk (addTab_sqr l0.length s R SQ1.out)
            go_loopg [55] R.length (fun gg s55 W => ∃ i : Nat, s55 = .int .i64 (i : Int) ∧ i ≤ R.length ∧ R.length - i ≤ gg ∧ Aside0 (OwnSS w W w6.heap.size w7.heap.size (.slice A n c) (addTab s R i)) ∧ Aside0 (OwnSS w W w8.heap.size w9.heap.size (.slice A9 R.length c9) R) ∧ Aside0 (Below w.heap.size w W))
            case atStart => exact ⟨0, rfl, Nat.zero_le _, by omega, OUT, OR, HB⟩
            case round =>
              clear OUT OR HB
              obtain ⟨i, rfl, hi, hgg2, OUT, OR, HB⟩ := hrel
              by_cases hlt2 : i < R.length
              · have hiz : (0 : Int) ≤ (i : Int) := by omega
                have hil : (i : Int) < (R.length : Int) := by omega
                have hin : i < n := by have := ZL.out; have := ZN.out; omega
                have hinz : (i : Int) < (n : Int) := by omega
                obtain ⟨g9, Ai, ci, e_, cr, lr, FR⟩ := OR.out.rowF i hlt2
                subst e_
                obtain ⟨row, hrow⟩ : ∃ row, R.getD i [] = row := ⟨_, rfl⟩
                rw [hrow] at cr lr FR
                have hrl : row.length = n := by rw [← hrow]; exact (row_of SQ2.out.1 SQ2.out.2 i (by have := ZL.out; omega)).trans ZN.out.symm
                have HRW_ := Aside0.mk (show addTab s R (i + 1) = addRow (addTab s R i) i row row.length from by show addRow _ i (R.getD i []) (R.getD i []).length = _; rw [hrow])
                have FR1 := Aside0.mk FR
                have HRL := Aside0.mk hrl
                clear hrow lr FR hrl
                go_wp2_with fail
                go_loopg [62] row.length (fun gg s62 W => ∃ j : Nat, s62 = .int .i64 (j : Int) ∧ j ≤ row.length ∧ row.length - j ≤ gg ∧ Aside0 (OwnSS w W w6.heap.size w7.heap.size (.slice A n c) (addRow (addTab s R i) i row j)) ∧ Aside0 (OwnSS w W w8.heap.size w9.heap.size (.slice (some ⟨g9, 0, none⟩) R.length c9) R) ∧ Aside0 (Kd.F (Kd.int .i64) W (fun k => w8.heap.size ≤ k ∧ k < w9.heap.size) Ai row.length row) ∧ Aside0 (Below w.heap.size w W))
                case atStart => exact ⟨0, rfl, Nat.zero_le _, by omega, OUT, OR, FR1, HB⟩
                case round =>
                  clear OUT OR FR1 HB
                  obtain ⟨j, rfl, hj, hgg3, OUT, OR, FR, HB⟩ := hrel
                  by_cases hlt3 : j < row.length
                  · have hjz : (0 : Int) ≤ (j : Int) := by omega
                    have hjl : (j : Int) < (row.length : Int) := by omega
                    have hjn : j < n := by have := HRL.out; omega
                    have hjnz : (j : Int) < (n : Int) := by omega
                    obtain ⟨ar, e_, cx⟩ := Kd.at_int (Kd.F_now FR.out) (j : Int) hjz hjl
                    subst e_
                    rw [Int.toNat_natCast, rd_nat_getD] at cx
                    obtain ⟨x, hx⟩ : ∃ x, row.getD j 0 = x := ⟨_, rfl⟩
                    rw [hx] at cx
                    have SQ3 := Aside0.mk (addRow_sqr l0.length (addTab s R i) i row (SQ0.out i) j)
                    have hrn := (row_of SQ3.out.1 SQ3.out.2 i (by have := ZN.out; omega)).trans ZN.out.symm
                    obtain ⟨g, gi, ci2, e_, hc1, hc2, hfz, hlo, hhi, hput⟩ := OUT.out.put i j (by rw [SQ3.out.1]; have := ZN.out; omega) (by rw [hrn]; exact hjn)
                    subst e_
                    rw [hrn] at hc1
                    obtain ⟨v, hv⟩ : ∃ v, ((addRow (addTab s R i) i row j).getD i []).getD j 0 = v := ⟨_, rfl⟩
                    rw [hv] at hc2
                    have HV := Aside0.mk hv
                    have HXx := Aside0.mk hx
                    have HP := Aside0.mk (hput (wrap64 (v + x)))
                    have HLO := Aside0.mk hlo
                    have HHI := Aside0.mk hhi
                    have HS := Aside0.mk (show (addRow (addTab s R i) i row j).set i (((addRow (addTab s R i) i row j).getD i []).set j (wrap64 (v + x))) = addRow (addTab s R i) i row (j + 1) from by show _ = uncP _ i j (row.getD j 0); unfold uncP put2; rw [hv, hx])
                    clear hv hx hput hrn hlo hhi
                    go_wp2_with ((with_reducible refine gate_store (t := 3) (p := 76) rfl ?_); refine store_event (t := 3) (p := 76) (v := ?vst) (w1 := wr.setCell ⟨gi, j, none⟩ (.int .i64 (wrap64 (v + x)))) ?hg ?ho ?hn ?hr ?_; (case ho => rfl); (case hg => rfl); (case hn => rfl); (case hr => first | (go_simp; done) | (go_simp; rfl)); intro w11 hw; have HW := Aside0.mk hw; clear hw)
                    have n_ := Aside0.mk (show OwnSS w w11 w6.heap.size w7.heap.size (.slice (some ⟨g, 0, none⟩) n c) (addRow (addTab s R i) i row (j + 1)) from by rw [HW.out, ← HS.out]; exact HP.out)
                    have m_ := Aside0.mk (show OwnSS w w11 w8.heap.size w9.heap.size (.slice (some ⟨g9, 0, none⟩) R.length c9) R from by rw [HW.out]; exact OR.out.far (by have := HHI.out; have := ZB.out; simp only []; omega) _)
                    have f_ := Aside0.mk (show Kd.F (Kd.int .i64) w11 (fun k => w8.heap.size ≤ k ∧ k < w9.heap.size) (some ar) row.length row from by rw [HW.out]; exact Kd.F_far FR.out (fun k hk => by have := HHI.out; have := ZB.out; simp only []; omega) _)
                    have o_ := Aside0.mk (show Below w.heap.size w w11 from by rw [HW.out]; exact below_set HB.out (Nat.le_trans ZW.out HLO.out))
                    clear OUT OR FR HB HW HS HP hc1 hc2 hfz
                    have OUT := n_
                    have OR := m_
                    have FR := f_
                    have HB := o_
                    clear n_ m_ f_ o_
                    go_roundg (row.length - (j + 1))
                    case measure => omega
                    case rel => exact ⟨j + 1, congrArg (Value.int .i64) (wrap64_nat_succ (by have := HRL.out; have := ZN.out; omega)), by omega, by omega, OUT, OR, FR, HB⟩
                  · have hltz : ¬ (j : Int) < (row.length : Int) := by omega
                    have hje : j = row.length := by omega
                    subst hje
                    have n_ := Aside0.mk (show OwnSS w wr w6.heap.size w7.heap.size (.slice A n c) (addTab s R (i + 1)) from by rw [HRW_.out]; exact OUT.out)
                    clear OUT
                    have OUT := n_
                    clear n_
                    go_wp2
                    go_roundg (R.length - (i + 1))
                    case measure => omega
                    case rel => exact ⟨i + 1, congrArg (Value.int .i64) (wrap64_nat_succ (by have := ZL.out; omega)), by omega, by omega, OUT, OR, HB⟩
              · have hltz : ¬ (i : Int) < (R.length : Int) := by omega
                have hie : i = R.length := by omega
                subst hie
                have n_ := Aside0.mk (show OwnSS w wr w6.heap.size w7.heap.size (.slice A n c) s' from by rw [← G6.out]; exact OUT.out)
                clear OUT
                have OUT := n_
                clear n_
                go_wp2
                go_roundg (l0.length - (q + 1))
                case measure => omega
                case rel => exact ⟨q + 1, s', by go_num, by omega, by omega, HS', OUT, HB⟩
          · have hltz : ¬ (q : Int) < (l0.length : Int) := by omega
            have hie : q = l0.length := by omega
            subst hie
            have hso := HG.out
            rw [H10.out] at hso
            injection hso with hso
            subst hso
            obtain ⟨hno, hnc, hC⟩ := Kd.S_reads' OUT.out.s
            have HNO := Aside0.mk hno
            have HNC := Aside0.mk hnc
            have HCO := Aside0.mk hC
            clear hno hnc hC
            have HPL := Aside0.mk (show Calls Try.prog 125 #[.slice A n c] wr (fun e w' => e = .returned (.bool t4) ∧ Drawn0 wr w') from by have h_ := spec_plGood.calls k A c out t4 wr HCO.out (by rw [← HNO.out]; exact HNC.out) H11.out; rwa [← HNO.out] at h_)
            cases t4 with
            | false =>
              have H := H12.out
              rw [if_neg (by decide)] at H
              injection H with H
              injection H with e1 e2
              subst e1 e2
              clear H12
              go_wp2_with (go_at_call 125; (with_reducible refine HPL.out.mono ?_); rintro e w13 ⟨rfl, hd_⟩; have KW13 := Aside0.mk (below_step HB.out hd_.below); clear hd_)
              go_ret2
              exact ⟨_, rfl, Kd.S_nil _ _ _ _ _, KW13.out⟩
            | true =>
              have H := H12.out
              rw [if_pos rfl] at H
              injection H with H
              injection H with e1 e2
              subst e1 e2
              clear H12
              go_wp2_with (go_at_call 125; (with_reducible refine HPL.out.mono ?_); rintro e w13 ⟨rfl, hd_⟩; have S13 := Aside0.mk (OUT.out.step hd_.below); have KW13 := Aside0.mk (below_step HB.out hd_.below); clear hd_)
              go_ret2
              exact ⟨_, rfl, Kd.S_mono S13.out.s (fun _ _ => trivial), KW13.out⟩

end Go.Proofs.Ytllnieknogficaa.K
namespace Go.Proofs.Ytllnieknogficaa.K
open Go.RowKit Go.Proofs.YtllnieknogficaaW.PrintWords Go.Proofs.YtllnieknogficaaW.PrintLast Go.Proofs.YtllnieknogficaaW.PrintMore
attribute [local go_sem] max2_int min2_int max_two min_two max_three min_three max_four min_four   -- for this text's walks alone
set_option linter.unusedVariables false
set_option linter.unusedSimpArgs false
theorem wrap_wrap (a b : Int) : wrap64 (wrap64 a + b) = wrap64 (a + b) := by unfold wrap64; omega
theorem wrap_wrap' (a b : Int) : wrap64 (a + wrap64 b) = wrap64 (a + b) := by unfold wrap64; omega
theorem put2_cell (s : List (List Int)) (i j : Nat) (v : Int) (hi : i < s.length) (hj : j < (s.getD i []).length) (p q : Nat) : cellAt (put2 s i j v) p q = if p = i ∧ q = j then v else cellAt s p q := by
  have e1 : (put2 s i j v).getD p [] = if p = i then (s.getD i []).set j v else s.getD p [] := by
    unfold put2
    by_cases hp : p = i
    · subst hp
      rw [if_pos rfl, List.getD_eq_getElem?_getD, List.getElem?_set_self hi]; rfl
    · rw [if_neg hp, List.getD_eq_getElem?_getD, List.getElem?_set_ne (fun h => hp h.symm), ← List.getD_eq_getElem?_getD]
  show ((put2 s i j v).getD p []).getD q 0 = _
  rw [e1]
  by_cases hp : p = i
  · subst hp
    rw [if_pos rfl]
    by_cases hq : q = j
    · subst hq
      rw [if_pos ⟨rfl, rfl⟩, List.getD_eq_getElem?_getD, List.getElem?_set_self hj]; rfl
    · rw [if_neg (fun h => hq h.2), List.getD_eq_getElem?_getD, List.getElem?_set_ne (fun h => hq h.symm), ← List.getD_eq_getElem?_getD]
      rfl
  · rw [if_neg hp, if_neg (fun h => hp h.1)]
    rfl
theorem sqr_row {n : Nat} {s : List (List Int)} (h : sqr n s) (i : Nat) (hi : i < n) : (s.getD i []).length = n := row_of h.1 h.2 i hi
theorem table_ext {n : Nat} {a b : List (List Int)} (ha : sqr n a) (hb : sqr n b) (h : ∀ p q, p < n → q < n → cellAt a p q = cellAt b p q) : a = b := by
  refine ext_getD [] (by rw [ha.1, hb.1]) (fun i hi => ?_)
  rw [ha.1] at hi
  have r1 := sqr_row ha i hi
  have r2 := sqr_row hb i hi
  refine ext_getD 0 (by rw [r1, r2]) (fun j hj => ?_)
  rw [r1] at hj
  exact h i j hi hj
def addT (n : Nat) (s R : List (List Int)) : List (List Int) := (List.range n).map fun p => (List.range n).map fun q => wrap64 (cellAt s p q + cellAt R p q)
theorem addT_sqr (n : Nat) (s R : List (List Int)) : sqr n (addT n s R) := by
  refine ⟨by simp [addT], fun r hr => ?_⟩
  obtain ⟨p, _, rfl⟩ := List.mem_map.1 hr
  simp
theorem addT_cell (n : Nat) (s R : List (List Int)) (p q : Nat) (hp : p < n) (hq : q < n) : cellAt (addT n s R) p q = wrap64 (cellAt s p q + cellAt R p q) := by
  show ((addT n s R).getD p []).getD q 0 = _
  unfold addT
  simp [List.getD_eq_getElem?_getD, hp, hq]
theorem addRow_cell (n : Nat) (s : List (List Int)) (i : Nat) (row : List Int) (h : sqr n s) (hi : i < n) : ∀ j, j ≤ n → ∀ p q, cellAt (addRow s i row j) p q = if p = i ∧ q < j then wrap64 (cellAt s p q + row.getD q 0) else cellAt s p q
  | 0, _, p, q => by rw [if_neg (by omega)]; rfl
  | j + 1, hj, p, q => by
    have hs := addRow_sqr n s i row h j
    have hrow := sqr_row hs i hi
    have ih := addRow_cell n s i row h hi j (by omega)
    show cellAt (uncP (addRow s i row j) i j (row.getD j 0)) p q = _
    unfold uncP
    rw [put2_cell _ i j _ (by rw [hs.1]; exact hi) (by rw [hrow]; omega)]
    have e : ((addRow s i row j).getD i []).getD j 0 = cellAt s i j := by
      have := ih i j
      rw [if_neg (by omega)] at this
      exact this
    by_cases h1 : p = i ∧ q = j
    · obtain ⟨rfl, rfl⟩ := h1
      rw [if_pos ⟨rfl, rfl⟩, if_pos ⟨rfl, by omega⟩, e]
    · rw [if_neg h1, ih p q]
      by_cases h2 : p = i ∧ q < j
      · rw [if_pos h2, if_pos (by omega)]
      · rw [if_neg h2, if_neg (by omega)]
theorem addTab_cell (n : Nat) (s R : List (List Int)) (h : sqr n s) (hR : sqr n R) : ∀ i, i ≤ n → ∀ p q, q < n → cellAt (addTab s R i) p q = if p < i then wrap64 (cellAt s p q + cellAt R p q) else cellAt s p q
  | 0, _, p, q, _ => by rw [if_neg (by omega)]; rfl
  | i + 1, hi, p, q, hq => by
    have ih := addTab_cell n s R h hR i (by omega)
    show cellAt (addRow (addTab s R i) i (R.getD i []) (R.getD i []).length) p q = _
    rw [sqr_row hR i (by omega), addRow_cell n _ i _ (addTab_sqr n s R h i) (by omega) n (Nat.le_refl _), ih p q hq]
    by_cases h1 : p = i
    · subst h1
      rw [if_pos ⟨rfl, hq⟩, if_neg (by omega), if_pos (by omega)]; rfl
    · rw [if_neg (by omega)]
      by_cases h2 : p < i
      · rw [if_pos h2, if_pos (by omega)]
      · rw [if_neg h2, if_neg (by omega)]
theorem addTab_eq (n : Nat) (s R : List (List Int)) (h : sqr n s) (hR : sqr n R) : addTab s R R.length = addT n s R := by
  rw [hR.1]
  refine table_ext (addTab_sqr n s R h n) (addT_sqr n s R) (fun p q hp hq => ?_)
  rw [addTab_cell n s R h hR n (Nat.le_refl _) p q hq, if_pos hp, addT_cell n s R p q hp hq]
/-- What is carried onto a table is the table and what is carried onto another one. -/
theorem go_add (n : Nat) (t : List (List Int)) : ∀ k (s z : List (List Int)) (x y : List Int) (i j : Nat) (Z : List (List Int)), x.length = n → y.length = n → sqr n s → sqr n z → (∀ p q, p < n → q < n → cellAt s p q = wrap64 (cellAt t p q + cellAt z p q)) →
    impl_carry.go k z x y i j = some Z → ∃ S, impl_carry.go k s x y i j = some S ∧ sqr n S ∧ sqr n Z ∧ ∀ p q, p < n → q < n → cellAt S p q = wrap64 (cellAt t p q + cellAt Z p q) := by
  intro k
  induction k with
  | zero => intro s z x y i j Z _ _ _ _ _ h; simp [impl_carry.go] at h
  | succ k ih =>
    intro s z x y i j Z hx hy hs hz hc h
    simp only [impl_carry.go] at h ⊢
    by_cases hb : i < x.length ∧ j < y.length
    · rw [if_pos hb] at h ⊢
      have hin : i < n := by omega
      have hjn : j < n := by omega
      rw [if_pos ⟨by rw [hz.1]; exact hin, by rw [sqr_row hz i hin]; exact hjn⟩] at h
      rw [if_pos ⟨by rw [hs.1]; exact hin, by rw [sqr_row hs i hin]; exact hjn⟩]
      have hs' : sqr n (impl_carry.put s i j (mn (x.getD i 0) (y.getD j 0))) := put_shape s n i j _ hs.1 hs.2
      have hz' : sqr n (impl_carry.put z i j (mn (x.getD i 0) (y.getD j 0))) := put_shape z n i j _ hz.1 hz.2
      have hc' : ∀ p q, p < n → q < n → cellAt (impl_carry.put s i j (mn (x.getD i 0) (y.getD j 0))) p q = wrap64 (cellAt t p q + cellAt (impl_carry.put z i j (mn (x.getD i 0) (y.getD j 0))) p q) := by
        intro p q hp hq
        rw [put_cell s i j _ (by rw [hs.1]; exact hin) (by rw [sqr_row hs i hin]; exact hjn), put_cell z i j _ (by rw [hz.1]; exact hin) (by rw [sqr_row hz i hin]; exact hjn)]
        by_cases e : p = i ∧ q = j
        · obtain ⟨rfl, rfl⟩ := e
          rw [if_pos ⟨rfl, rfl⟩, if_pos ⟨rfl, rfl⟩, hc p q hp hq, wrap_wrap, wrap_wrap', Int.add_assoc]
        · rw [if_neg e, if_neg e]; exact hc p q hp hq
      by_cases hd : wrap64 (x.getD i 0 - mn (x.getD i 0) (y.getD j 0)) = 0
      · rw [if_pos hd] at h ⊢
        exact ih _ _ _ _ _ _ Z (by simpa using hx) (by simpa using hy) hs' hz' hc' h
      · rw [if_neg hd] at h ⊢
        exact ih _ _ _ _ _ _ Z (by simpa using hx) (by simpa using hy) hs' hz' hc' h
    · rw [if_neg hb] at h ⊢
      injection h with h
      subst h
      exact ⟨s, rfl, hs, hz, hc⟩
theorem tab0_sqr (n : Nat) : sqr n (impl_square.tab (fun _ _ => 0) n n) := by
  refine ⟨by simp [impl_square.tab], fun r hr => ?_⟩
  unfold impl_square.tab at hr
  obtain ⟨_, _, rfl⟩ := List.mem_map.1 hr
  simp
theorem carry_add (n : Nat) (s : List (List Int)) (a b : List Int) (ha : a.length = n) (hb : b.length = n) (hs : sqr n s) (hw : ∀ p q, p < n → q < n → wrap64 (cellAt s p q) = cellAt s p q) :
    impl_carry.go (n + n + 1) s a b 0 0 = some (addT n s (monoP a b)) ∧ sqr n (monoP a b) := by
  have hm := (mono_some a b (by omega)).1
  rw [ha, hb] at hm
  obtain ⟨S, h1, h2, h3, h4⟩ := go_add n s (n + n + 1) s (impl_square.tab (fun _ _ => 0) n n) a b 0 0 (monoP a b) ha hb hs (tab0_sqr n) (fun p q hp hq => by rw [tab0_cell, Int.add_zero, hw p q hp hq]) hm
  refine ⟨?_, h3⟩
  rw [h1]
  congr 1
  exact table_ext h2 (addT_sqr n s _) (fun p q hp hq => by rw [h4 p q hp hq, addT_cell n s _ p q hp hq])
theorem wrap_idem (a : Int) : wrap64 (wrap64 a) = wrap64 a := by have := wrap_wrap a 0; rwa [Int.add_zero, Int.add_zero] at this
/-- The first so many columns and rows, glued. -/
def glueP (m n : List (List Int)) : Nat → List (List Int)
  | 0 => impl_square.tab (fun _ _ => 0) m.length m.length
  | q + 1 => addT m.length (glueP m n q) (monoP (colOf m q) (n.getD q []))
theorem glueP_sqr (m n : List (List Int)) : ∀ q, sqr m.length (glueP m n q) ∧ ∀ i j, i < m.length → j < m.length → wrap64 (cellAt (glueP m n q) i j) = cellAt (glueP m n q) i j
  | 0 => ⟨tab0_sqr _, fun i j _ _ => by show wrap64 (cellAt (impl_square.tab (fun _ _ => 0) m.length m.length) i j) = cellAt (impl_square.tab (fun _ _ => 0) m.length m.length) i j; rw [tab0_cell]; exact wrap64_id (by decide) (by decide)⟩
  | q + 1 => ⟨addT_sqr _ _ _, fun i j hi hj => by show wrap64 (cellAt (addT _ _ _) i j) = cellAt (addT _ _ _) i j; rw [addT_cell _ _ _ i j hi hj, wrap_idem]⟩
theorem glueTo_eq (m n : List (List Int)) (hl : n.length = m.length) (hr : ∀ r ∈ n, r.length = m.length) : ∀ q, q ≤ m.length → glueTo (turned m) n m.length q = some (glueP m n q)
  | 0, _ => rfl
  | q + 1, hq => by
    have ih := glueTo_eq m n hl hr q (by omega)
    obtain ⟨h1, h2⟩ := glueP_sqr m n q
    simp only [glueTo, ih, Option.bind_some]
    rw [turned_getD m q (by omega)]
    exact (carry_add m.length (glueP m n q) (colOf m q) (n.getD q []) (colOf_length m q) (row_of (n := m.length) hl hr q (by omega)) h1 h2).1
theorem glueS_ev (m n : List (List Int)) (hm8 : m.length ≤ 8) (hm : ∀ r ∈ m, r.length = m.length) (hl : n.length = m.length) (hr : ∀ r ∈ n, r.length = m.length) : ∀ q, q ≤ m.length → Ev (fun k => glueS k m n q) (glueP m n q)
  | 0, _ => by
    have e : impl_square.tab (fun _ _ => 0) m.length m.length = List.replicate m.length (List.replicate m.length 0) := by simp [impl_square.tab, List.map_const']
    show Ev (fun k => spec_plEmpty.f k (m.length : Int)) (impl_square.tab (fun _ _ => 0) m.length m.length)
    rw [e]
    exact plEmpty_ev m.length (by omega)
  | q + 1, hq => by
    obtain ⟨h1, h2⟩ := glueP_sqr m n q
    have hrow : (n.getD q []).length = m.length := row_of (n := m.length) hl hr q (by omega)
    obtain ⟨_, h3⟩ := carry_add m.length (glueP m n q) (colOf m q) (n.getD q []) (colOf_length m q) hrow h1 h2
    simp only [glueS]
    refine Ev.bind (glueS_ev m n hm8 hm hl hr q (by omega)) ?_
    refine Ev.bind (plColumn_ev m q (by omega) (fun r hr2 => by have := hm r hr2; omega)) ?_
    rw [specMono (colOf m q) (n.getD q []) (by rw [colOf_length, hrow]) (by rw [colOf_length]; omega)]
    simp only [Option.bind_some, if_pos (show sqr m.length (glueP m n q) ∧ sqr m.length (monoP (colOf m q) (n.getD q [])) from ⟨h1, h3⟩)]
    rw [addTab_eq m.length _ _ h1 h3]
    exact ev_now _ _ rfl
/-- What gluing comes to. -/
def glueR (m n : List (List Int)) : List (List Int) × Bool :=
  if planB m = true ∧ planB n = true ∧ (turned m).map isum = n.map isum then (if planB (glueP m n m.length) = true then (glueP m n m.length, true) else ([], false)) else ([], false)
theorem glue_len (m n : List (List Int)) (h : (turned m).map isum = n.map isum) : n.length = m.length := by
  have := congrArg List.length h
  simpa [turned] using this.symm
theorem implGlue_ev (m n : List (List Int)) : Ev (fun k => impl_GluePlans.f k m n) (glueR m n) := by
  unfold impl_GluePlans.f glueR
  simp only [isPlan_f, Option.bind_some]
  cases hm : planB m with
  | false => simp only [Bool.false_eq_true, if_false, false_and]; exact ev_now _ _ rfl
  | true =>
    obtain ⟨m1, m2, m3⟩ := (planB_iff m).1 hm
    simp only [if_true, true_and]
    cases hn : planB n with
    | false => simp only [Bool.false_eq_true, if_false, false_and]; exact ev_now _ _ rfl
    | true =>
      obtain ⟨n1, n2, n3⟩ := (planB_iff n).1 hn
      simp only [if_true, true_and]
      have ht : planB (turned m) = true := turned_plan m hm
      obtain ⟨t1, t2, t3⟩ := (planB_iff _).1 ht
      refine Ev.bind (implTurn_ev m m.length (by omega) m2 m2 (fun r hr => (m3 r hr).1)) ?_
      show Ev (fun k => (impl_rowSums.f k (turned m)).bind _) _
      refine Ev.bind (rowSums_ev (turned m) (by omega) (fun r hr => by have := (t3 r hr).1; omega)) ?_
      refine Ev.bind (rowSums_ev n (by omega) (fun r hr => by have := (n3 r hr).1; omega)) ?_
      refine Ev.bind (equal_ev _ _ (by rw [List.length_map]; omega)) ?_
      by_cases he : (turned m).map isum = n.map isum
      · have hl := glue_len m n he
        simp only [decide_eq_true he, if_true, if_pos he]
        have hok : glueOk m (turned m) n := ⟨by omega, by rw [turned_length]; omega, by omega, fun r hr => by have := (t3 r hr).1; omega, fun r hr => by have := (n3 r hr).1; omega⟩
        have hrest : impl_GluePlans.rest m (turned m) n = (if planB (glueP m n m.length) = true then some (glueP m n m.length, true) else some ([], false)) := by
          unfold impl_GluePlans.rest
          rw [if_pos hok, turned_length, glueTo_eq m n hl (fun r hr => by rw [(n3 r hr).1, hl]) m.length (Nat.le_refl _)]
          rfl
        refine Ev.congr (f := fun _ => (if planB (glueP m n m.length) = true then some (glueP m n m.length, true) else some ([], false))) (fun k => hrest) ?_
        cases hp : planB (glueP m n m.length) with
        | false => exact ev_now _ _ rfl
        | true => exact ev_now _ _ rfl
      · simp only [decide_eq_false he, Bool.false_eq_true, if_false, if_neg he]
        exact ev_now _ _ rfl
theorem specGlue_ev (m n : List (List Int)) : Ev (fun k => spec_GluePlans.f k m n) (glueR m n) := by
  unfold spec_GluePlans.f glueR
  refine Ev.bind (plGood_ev m) ?_
  cases hm : planB m with
  | false => simp only [Bool.false_eq_true, if_false, false_and]; exact ev_now _ _ rfl
  | true =>
    obtain ⟨m1, m2, m3⟩ := (planB_iff m).1 hm
    simp only [if_true, true_and]
    refine Ev.bind (plGood_ev n) ?_
    cases hn : planB n with
    | false => simp only [Bool.false_eq_true, if_false, false_and]; exact ev_now _ _ rfl
    | true =>
      obtain ⟨n1, n2, n3⟩ := (planB_iff n).1 hn
      simp only [if_true, true_and]
      refine Ev.bind (plSums_ev m hm) ?_
      refine Ev.bind (plSums_ev n hn) ?_
      refine Ev.bind (same_ev _ _ (by rw [List.length_map, turned_length]; omega)) ?_
      by_cases he : (turned m).map isum = n.map isum
      · have hl := glue_len m n he
        simp only [decide_eq_true he, if_true, if_pos he]
        unfold spec_GluePlans.rest
        simp only [if_pos (show m.length ≤ n.length ∧ m.length ≤ 1048576 by omega)]
        refine Ev.bind (glueS_ev m n m2 (fun r hr => (m3 r hr).1) hl (fun r hr => by rw [(n3 r hr).1, hl]) m.length (Nat.le_refl _)) ?_
        refine Ev.bind (plGood_ev _) ?_
        cases hp : planB (glueP m n m.length) with
        | false => exact ev_now _ _ rfl
        | true => exact ev_now _ _ rfl
      · simp only [decide_eq_false he, Bool.false_eq_true, if_false, if_neg he]
        exact ev_now _ _ rfl
theorem glueR_small (m n : List (List Int)) : (glueR m n).1.length ≤ 1048576 ∧ (∀ r ∈ (glueR m n).1, r.length ≤ 1048576) ∧ laws_markIntSS.tot (glueR m n).1 ≤ 1048576 := by
  have key : planB (glueR m n).1 = true ∨ (glueR m n).1 = [] := by
    unfold glueR
    split
    · split
      · rename_i h; exact .inl h
      · exact .inr rfl
    · exact .inr rfl
  rcases key with h | h
  · obtain ⟨h1, h2, h3⟩ := plan_small _ h
    obtain ⟨_, g2, g3⟩ := (planB_iff _).1 h
    exact ⟨by omega, fun r hr => by have := (g3 r hr).1; omega, h3⟩
  · rw [h]; exact ⟨by simp, by simp, by simp [laws_markIntSS.tot]⟩
theorem GluePlans_pure (l0 l1 : List (List Int)) (h0 : l0.length ≤ 1048576) (_ : ∀ r ∈ l0, r.length ≤ 1048576) (h1 : l1.length ≤ 1048576) (_ : ∀ r ∈ l1, r.length ≤ 1048576) :
    ∃ (R : List (List Int)) (b : Bool), Ev (fun k => spec_GluePlans.f k l0 l1) (R, b) ∧ Ev (fun k => impl_GluePlans.f k l0 l1) (R, b) ∧ R.length ≤ 1048576 ∧ (∀ r ∈ R, r.length ≤ 1048576) ∧ laws_markIntSS.tot R ≤ 1048576 :=
  ⟨(glueR l0 l1).1, (glueR l0 l1).2, specGlue_ev l0 l1, implGlue_ev l0 l1, (glueR_small l0 l1).1, (glueR_small l0 l1).2.1, (glueR_small l0 l1).2.2⟩
end Go.Proofs.Ytllnieknogficaa.K
namespace Go.Proofs.Ytllnieknogficaa.K
open Go.RowKit Go.Proofs.YtllnieknogficaaW.PrintWords Go.Proofs.YtllnieknogficaaW.PrintLast Go.Proofs.YtllnieknogficaaW.PrintMore
attribute [local go_sem] max2_int min2_int max_two min_two max_three min_three max_four min_four   -- for this text's walks alone
set_option linter.unusedVariables false
set_option linter.unusedSimpArgs false

/-! ### laws_eqIntS: function 45 -/
def laws_eqIntS.l0 : Nat → List Int → List Int → Int → Option (Bool)
  | 0, _, _, _ => none
  | k + 1, x0, x1, x5 => if x5 < (x0.length : Int) then (if 0 ≤ x5 then (if x5 < (x1.length : Int) then (if (rd x0 x5) = (rd x1 x5) then (laws_eqIntS.l0 k x0 x1 (wrap64 (x5 + 1))) else (some false)) else (none)) else (none)) else (some true)
def laws_eqIntS.f (k : Nat) (l0 : List Int) (l1 : List Int) : Option (Bool) := if (l0.length : Int) = (l1.length : Int) then (laws_eqIntS.l0 k l0 l1 0) else (some false)
theorem laws_eqIntS.mono_l : ∀ k, (∀ y0 y1 y2, LeO (laws_eqIntS.l0 k y0 y1 y2) (laws_eqIntS.l0 (k + 1) y0 y1 y2))
  | 0 => fun _ _ _ r h => by simp [laws_eqIntS.l0] at h
  | k + 1 => by
    have ih0 := laws_eqIntS.mono_l k
    · intro y0 y1 y2
      unfold laws_eqIntS.l0
      repeat' first
      | (with_reducible exact ih0 _ _ _)
      | (with_reducible exact LeO.refl _)
      | (with_reducible exact LeO.none _)
      | (with_reducible refine LeO.ite ?_ ?_)
      | (with_reducible refine LeO.bind ?_ (fun _ => ?_))
      | exact ih0 _ _ _
      | exact LeO.none _
      | refine LeO.ite ?_ ?_
      | refine LeO.bind ?_ (fun _ => ?_)
theorem laws_eqIntS.mono : ∀ a0 a1 k, LeO (laws_eqIntS.f k a0 a1) (laws_eqIntS.f (k + 1) a0 a1) := by
  intro a0 a1 k
  have ih0 := laws_eqIntS.mono_l k
  unfold laws_eqIntS.f
  repeat' first
      | (with_reducible exact ih0 _ _ _)
      | (with_reducible exact LeO.refl _)
      | (with_reducible exact LeO.none _)
      | (with_reducible refine LeO.ite ?_ ?_)
      | (with_reducible refine LeO.bind ?_ (fun _ => ?_))
      | exact ih0 _ _ _
      | exact LeO.none _
      | refine LeO.ite ?_ ?_
      | refine LeO.bind ?_ (fun _ => ?_)
set_option maxHeartbeats 8000000 in
set_option maxRecDepth 100000 in
theorem laws_eqIntS.calls (k : Nat) (A0 : Option Addr) (c0 : Nat) (l0 : List Int) (A1 : Option Addr) (c1 : Nat) (l1 : List Int) (r : Bool) (w : World) (hr0 : Kd.C (Kd.int .i64) w A0 l0.length l0) (hc0 : l0.length ≤ c0) (hr1 : Kd.C (Kd.int .i64) w A1 l1.length l1) (hc1 : l1.length ≤ c1) (h : laws_eqIntS.f k l0 l1 = some r) :
    Calls Try.prog 45 #[.slice A0 l0.length c0, .slice A1 l1.length c1] w fun e w' => e = .returned (.bool r) ∧ Drawn0 w w' := by
  have HR0 := Aside0.mk hr0
  have HC0 := Aside0.mk hc0
  clear hr0 hc0
  have HR1 := Aside0.mk hr1
  have HC1 := Aside0.mk hc1
  clear hr1 hc1
  have H : (if (l0.length : Int) = (l1.length : Int) then (laws_eqIntS.l0 k l0 l1 0) else (some false)) = some r := h
  clear h
  by_cases c3 : (l0.length : Int) = (l1.length : Int)
  · rw [if_pos c3] at H
    have c3b0 : ((l0.length : Int) == (l1.length : Int)) = true := beq_iff_eq.mpr c3
    have c3b1 : ((l0.length : Int) != (l1.length : Int)) = false := bne_eq_false_iff_eq.mpr c3
    have c3b2 : (l0.length == l1.length) = true := by first | simpa using c3 | (simp at c3 ⊢; omega)
    clear c3
    have H' := Aside0.mk H
    clear H
    go_enter Try.func45, Try.ntmps45
    go_wp2
    repeat (go_quiet (fail); try go_wp2)
    go_loopg [5] k (fun kq v5 w' => ∃ (x5_1 : Int), v5 = .int .i64 x5_1 ∧ Aside0 (laws_eqIntS.l0 kq l0 l1 x5_1 = some r) ∧ Aside0 (kq ≤ k) ∧ Drawn0 w w')
    case atStart => exact ⟨(0), (by first | rfl | (simp; done) | (simp [*]; done)), H', ⟨Nat.le_refl _⟩, by repeat (first | exact Drawn0.refl _ | apply Drawn0.step)⟩
    case round =>
      clear H'
      try clear c1
      try clear p2
      try clear c3
      try clear c3b0
      try clear c3b1
      try clear c3b2
      obtain ⟨x5_1, rfl, HA, HK1, ⟨m1, rfl⟩⟩ := hrel
      cases gk with
      | zero => exact absurd HA.out (by simp [laws_eqIntS.l0])
      | succ k1 =>
        have H := HA.out
        clear HA
        simp only [laws_eqIntS.l0] at H
        by_cases c4 : x5_1 < (l0.length : Int)
        · rw [if_pos c4] at H
          have c4b0 : decide (x5_1 < (l0.length : Int)) = true := decide_eq_true c4
          clear c4
          by_cases c5 : 0 ≤ x5_1
          · rw [if_pos c5] at H
            have c5b0 : decide (0 ≤ x5_1) = true := decide_eq_true c5
            clear c5
            by_cases c6 : x5_1 < (l1.length : Int)
            · rw [if_pos c6] at H
              have c6b0 : decide (x5_1 < (l1.length : Int)) = true := decide_eq_true c6
              clear c6
              by_cases c7 : (rd l0 x5_1) = (rd l1 x5_1)
              · rw [if_pos c7] at H
                have c7b0 : ((rd l0 x5_1) == (rd l1 x5_1)) = true := beq_iff_eq.mpr c7
                have c7b1 : ((rd l0 x5_1) != (rd l1 x5_1)) = false := bne_eq_false_iff_eq.mpr c7
                clear c7
                have H' := Aside0.mk H
                clear H
                have p425 : 0 ≤ (x5_1 : Int) := of_decide_eq_true (by first | (with_reducible assumption) | assumption)
                have q425 : x5_1 < (l0.length : Int) := of_decide_eq_true (by first | (with_reducible assumption) | assumption)
                obtain ⟨ad425, e425, hx425_0⟩ := Kd.at_int HR0.out x5_1 p425 q425
                cases e425
                replace p425 := eq_true p425
                replace q425 := eq_true q425
                have p426 : 0 ≤ (x5_1 : Int) := of_decide_eq_true (by first | (with_reducible assumption) | assumption)
                have q426 : x5_1 < (l1.length : Int) := of_decide_eq_true (by first | (with_reducible assumption) | assumption)
                obtain ⟨ad426, e426, hx426_0⟩ := Kd.at_int HR1.out x5_1 p426 q426
                cases e426
                replace p426 := eq_true p426
                replace q426 := eq_true q426
                go_wp2
                repeat (go_quiet (fail); try go_wp2)
                go_roundg k1
                case measure => have := HK1.out; omega
                case rel => exact ⟨(wrap64 (x5_1 + 1)), (by first | rfl | (simp; done) | (simp [*]; done)), H', ⟨by have := HK1.out; omega⟩, by repeat (first | exact Drawn0.refl _ | apply Drawn0.step)⟩
              · rw [if_neg c7] at H
                have c7b0 : ((rd l0 x5_1) == (rd l1 x5_1)) = false := beq_eq_false_iff_ne.mpr c7
                have c7b1 : ((rd l0 x5_1) != (rd l1 x5_1)) = true := bne_iff_ne.mpr c7
                obtain rfl := Option.some.inj H
                have p425 : 0 ≤ (x5_1 : Int) := of_decide_eq_true (by first | (with_reducible assumption) | assumption)
                have q425 : x5_1 < (l0.length : Int) := of_decide_eq_true (by first | (with_reducible assumption) | assumption)
                obtain ⟨ad425, e425, hx425_0⟩ := Kd.at_int HR0.out x5_1 p425 q425
                cases e425
                replace p425 := eq_true p425
                replace q425 := eq_true q425
                have p426 : 0 ≤ (x5_1 : Int) := of_decide_eq_true (by first | (with_reducible assumption) | assumption)
                have q426 : x5_1 < (l1.length : Int) := of_decide_eq_true (by first | (with_reducible assumption) | assumption)
                obtain ⟨ad426, e426, hx426_0⟩ := Kd.at_int HR1.out x5_1 p426 q426
                cases e426
                replace p426 := eq_true p426
                replace q426 := eq_true q426
                go_wp2
                repeat (go_quiet (fail); try go_wp2)
                go_ret
                exact ⟨by first | rfl | (simp; done) | (simp [*]; done), by repeat (first | exact Drawn0.refl _ | apply Drawn0.step)⟩
            · rw [if_neg c6] at H
              exact absurd H (by simp)
          · rw [if_neg c5] at H
            exact absurd H (by simp)
        · rw [if_neg c4] at H
          have c4b0 : decide (x5_1 < (l0.length : Int)) = false := decide_eq_false c4
          clear c4
          obtain rfl := Option.some.inj H
          go_wp2
          repeat (go_quiet (fail); try go_wp2)
          go_ret
          exact ⟨by first | rfl | (simp; done) | (simp [*]; done), by repeat (first | exact Drawn0.refl _ | apply Drawn0.step)⟩
  · rw [if_neg c3] at H
    have c3b0 : ((l0.length : Int) == (l1.length : Int)) = false := beq_eq_false_iff_ne.mpr c3
    have c3b1 : ((l0.length : Int) != (l1.length : Int)) = true := bne_iff_ne.mpr c3
    have c3b2 : (l0.length == l1.length) = false := by first | simpa using c3 | (simp at c3 ⊢; omega)
    obtain rfl := Option.some.inj H
    go_enter Try.func45, Try.ntmps45
    go_wp2
    repeat (go_quiet (fail); try go_wp2)
    go_ret
    exact ⟨by first | rfl | (simp; done) | (simp [*]; done), by repeat (first | exact Drawn0.refl _ | apply Drawn0.step)⟩

end Go.Proofs.Ytllnieknogficaa.K
namespace Go.Proofs.Ytllnieknogficaa.K
open Go.RowKit Go.Proofs.YtllnieknogficaaW.PrintWords Go.Proofs.YtllnieknogficaaW.PrintLast Go.Proofs.YtllnieknogficaaW.PrintMore
attribute [local go_sem] max2_int min2_int max_two min_two max_three min_three max_four min_four   -- for this text's walks alone
set_option linter.unusedVariables false
set_option linter.unusedSimpArgs false

/-! ### laws_eqIntSS: function 38 -/
def laws_eqIntSS.l0 : Nat → List (List Int) → List (List Int) → Int → Option (Bool)
  | 0, _, _, _ => none
  | k + 1, x0, x1, x5 => if x5 < (x0.length : Int) then (if 0 ≤ x5 then (if x5 < (x1.length : Int) then ((laws_eqIntS.f k (rd_L2 x0 x5) (rd_L2 x1 x5)).bind fun t429 => (if t429 = true then (laws_eqIntSS.l0 k x0 x1 (wrap64 (x5 + 1))) else (some false))) else (none)) else (none)) else (some true)
def laws_eqIntSS.f (k : Nat) (l0 : List (List Int)) (l1 : List (List Int)) : Option (Bool) := if (l0.length : Int) = (l1.length : Int) then (laws_eqIntSS.l0 k l0 l1 0) else (some false)
theorem laws_eqIntSS.mono_l : ∀ k, (∀ y0 y1 y2, LeO (laws_eqIntSS.l0 k y0 y1 y2) (laws_eqIntSS.l0 (k + 1) y0 y1 y2))
  | 0 => fun _ _ _ r h => by simp [laws_eqIntSS.l0] at h
  | k + 1 => by
    have ih0 := laws_eqIntSS.mono_l k
    · intro y0 y1 y2
      unfold laws_eqIntSS.l0
      repeat' first
      | (with_reducible exact ih0 _ _ _)
      | (with_reducible exact laws_eqIntS.mono _ _ _)
      | (with_reducible exact LeO.refl _)
      | (with_reducible exact LeO.none _)
      | (with_reducible refine LeO.ite ?_ ?_)
      | (with_reducible refine LeO.bind ?_ (fun _ => ?_))
      | exact ih0 _ _ _
      | exact laws_eqIntS.mono _ _ _
      | exact LeO.none _
      | refine LeO.ite ?_ ?_
      | refine LeO.bind ?_ (fun _ => ?_)
theorem laws_eqIntSS.mono : ∀ a0 a1 k, LeO (laws_eqIntSS.f k a0 a1) (laws_eqIntSS.f (k + 1) a0 a1) := by
  intro a0 a1 k
  have ih0 := laws_eqIntSS.mono_l k
  unfold laws_eqIntSS.f
  repeat' first
      | (with_reducible exact ih0 _ _ _)
      | (with_reducible exact laws_eqIntS.mono _ _ _)
      | (with_reducible exact LeO.refl _)
      | (with_reducible exact LeO.none _)
      | (with_reducible refine LeO.ite ?_ ?_)
      | (with_reducible refine LeO.bind ?_ (fun _ => ?_))
      | exact ih0 _ _ _
      | exact laws_eqIntS.mono _ _ _
      | exact LeO.none _
      | refine LeO.ite ?_ ?_
      | refine LeO.bind ?_ (fun _ => ?_)
set_option maxHeartbeats 8000000 in
set_option maxRecDepth 100000 in
theorem laws_eqIntSS.calls (k : Nat) (A0 : Option Addr) (c0 : Nat) (l0 : List (List Int)) (A1 : Option Addr) (c1 : Nat) (l1 : List (List Int)) (r : Bool) (w : World) (hr0 : Kd.C (Kd.slice 3 (Kd.int .i64)) w A0 l0.length l0) (hc0 : l0.length ≤ c0) (hr1 : Kd.C (Kd.slice 3 (Kd.int .i64)) w A1 l1.length l1) (hc1 : l1.length ≤ c1) (h : laws_eqIntSS.f k l0 l1 = some r) :
    Calls Try.prog 38 #[.slice A0 l0.length c0, .slice A1 l1.length c1] w fun e w' => e = .returned (.bool r) ∧ Drawn0 w w' := by
  have HR0 := Aside0.mk hr0
  have HC0 := Aside0.mk hc0
  clear hr0 hc0
  have HR1 := Aside0.mk hr1
  have HC1 := Aside0.mk hc1
  clear hr1 hc1
  have H : (if (l0.length : Int) = (l1.length : Int) then (laws_eqIntSS.l0 k l0 l1 0) else (some false)) = some r := h
  clear h
  by_cases c3 : (l0.length : Int) = (l1.length : Int)
  · rw [if_pos c3] at H
    have c3b0 : ((l0.length : Int) == (l1.length : Int)) = true := beq_iff_eq.mpr c3
    have c3b1 : ((l0.length : Int) != (l1.length : Int)) = false := bne_eq_false_iff_eq.mpr c3
    have c3b2 : (l0.length == l1.length) = true := by first | simpa using c3 | (simp at c3 ⊢; omega)
    clear c3
    have H' := Aside0.mk H
    clear H
    go_enter Try.func38, Try.ntmps38
    go_wp2
    repeat (go_quiet (fail); try go_wp2)
    go_loopg [5] k (fun kq v5 w' => ∃ (x5_1 : Int), v5 = .int .i64 x5_1 ∧ Aside0 (laws_eqIntSS.l0 kq l0 l1 x5_1 = some r) ∧ Aside0 (kq ≤ k) ∧ Drawn0 w w')
    case atStart => exact ⟨(0), (by first | rfl | (simp; done) | (simp [*]; done)), H', ⟨Nat.le_refl _⟩, by repeat (first | exact Drawn0.refl _ | apply Drawn0.step)⟩
    case round =>
      clear H'
      try clear c1
      try clear p2
      try clear c3
      try clear c3b0
      try clear c3b1
      try clear c3b2
      obtain ⟨x5_1, rfl, HA, HK1, ⟨m1, rfl⟩⟩ := hrel
      cases gk with
      | zero => exact absurd HA.out (by simp [laws_eqIntSS.l0])
      | succ k1 =>
        have H := HA.out
        clear HA
        simp only [laws_eqIntSS.l0] at H
        by_cases c4 : x5_1 < (l0.length : Int)
        · rw [if_pos c4] at H
          have c4b0 : decide (x5_1 < (l0.length : Int)) = true := decide_eq_true c4
          clear c4
          by_cases c5 : 0 ≤ x5_1
          · rw [if_pos c5] at H
            have c5b0 : decide (0 ≤ x5_1) = true := decide_eq_true c5
            clear c5
            by_cases c6 : x5_1 < (l1.length : Int)
            · rw [if_pos c6] at H
              have c6b0 : decide (x5_1 < (l1.length : Int)) = true := decide_eq_true c6
              clear c6
              replace H := Option.bind_eq_some_iff.mp H
              obtain ⟨t429, A70, H⟩ := H
              replace H : (if t429 = true then (laws_eqIntSS.l0 k1 l0 l1 (wrap64 (x5_1 + 1))) else (some false)) = some r := H
              have A7 := Aside0.mk A70
              clear A70
              by_cases c8 : t429 = true
              · subst c8
                have H1 : (laws_eqIntSS.l0 k1 l0 l1 (wrap64 (x5_1 + 1))) = some r := by rw [if_pos rfl] at H; exact H
                clear H
                have H := H1
                clear H1
                have H' := Aside0.mk H
                clear H
                have p427 : 0 ≤ (x5_1 : Int) := of_decide_eq_true (by first | (with_reducible assumption) | assumption)
                have q427 : x5_1 < (l0.length : Int) := of_decide_eq_true (by first | (with_reducible assumption) | assumption)
                obtain ⟨ad427, A427_0, c427_0, e427, hx427_0, hl427_0, hi427_0⟩ := at_L2 HR0.out x5_1 p427 q427
                cases e427
                have HR427_0 := Aside0.mk hi427_0
                have HC427_0 := Aside0.mk hl427_0
                clear hi427_0 hl427_0
                replace p427 := eq_true p427
                replace q427 := eq_true q427
                have p428 : 0 ≤ (x5_1 : Int) := of_decide_eq_true (by first | (with_reducible assumption) | assumption)
                have q428 : x5_1 < (l1.length : Int) := of_decide_eq_true (by first | (with_reducible assumption) | assumption)
                obtain ⟨ad428, A428_0, c428_0, e428, hx428_0, hl428_0, hi428_0⟩ := at_L2 HR1.out x5_1 p428 q428
                cases e428
                have HR428_0 := Aside0.mk hi428_0
                have HC428_0 := Aside0.mk hl428_0
                clear hi428_0 hl428_0
                replace p428 := eq_true p428
                replace q428 := eq_true q428
                go_wp2_with (first | (go_at_call 45; (with_reducible refine (laws_eqIntS.calls k1 _ _ (rd_L2 l0 x5_1) _ _ (rd_L2 l1 x5_1) true _ ?side1 ?side2 ?side3 ?side4 A7.out).mono ?_); (case side1 => repeat (first | exact HR427_0.out | (with_reducible refine Kd.C_alloc ?_ _) | (with_reducible refine Kd.C_drewN ?_ _) | (with_reducible refine Kd.C_drew ?_))); (case side2 => exact HC427_0.out); (case side3 => repeat (first | exact HR428_0.out | (with_reducible refine Kd.C_alloc ?_ _) | (with_reducible refine Kd.C_drewN ?_ _) | (with_reducible refine Kd.C_drew ?_))); (case side4 => exact HC428_0.out); rintro e w' ⟨rfl, ⟨nd, rfl⟩⟩; (try first | exact ⟨rfl, _, World.drewN_drewN _ _ _⟩ | exact ⟨rfl, _, Eq.trans (World.drewN_drewN _ _ _) (congrArg (World.drewN _) (Nat.add_assoc _ _ _))⟩)))
                repeat (go_quiet (first | (go_at_call 45; (with_reducible refine (laws_eqIntS.calls k1 _ _ (rd_L2 l0 x5_1) _ _ (rd_L2 l1 x5_1) true _ ?side1 ?side2 ?side3 ?side4 A7.out).mono ?_); (case side1 => repeat (first | exact HR427_0.out | (with_reducible refine Kd.C_alloc ?_ _) | (with_reducible refine Kd.C_drewN ?_ _) | (with_reducible refine Kd.C_drew ?_))); (case side2 => exact HC427_0.out); (case side3 => repeat (first | exact HR428_0.out | (with_reducible refine Kd.C_alloc ?_ _) | (with_reducible refine Kd.C_drewN ?_ _) | (with_reducible refine Kd.C_drew ?_))); (case side4 => exact HC428_0.out); rintro e w' ⟨rfl, ⟨nd, rfl⟩⟩; (try first | exact ⟨rfl, _, World.drewN_drewN _ _ _⟩ | exact ⟨rfl, _, Eq.trans (World.drewN_drewN _ _ _) (congrArg (World.drewN _) (Nat.add_assoc _ _ _))⟩))); try go_wp2_with (first | (go_at_call 45; (with_reducible refine (laws_eqIntS.calls k1 _ _ (rd_L2 l0 x5_1) _ _ (rd_L2 l1 x5_1) true _ ?side1 ?side2 ?side3 ?side4 A7.out).mono ?_); (case side1 => repeat (first | exact HR427_0.out | (with_reducible refine Kd.C_alloc ?_ _) | (with_reducible refine Kd.C_drewN ?_ _) | (with_reducible refine Kd.C_drew ?_))); (case side2 => exact HC427_0.out); (case side3 => repeat (first | exact HR428_0.out | (with_reducible refine Kd.C_alloc ?_ _) | (with_reducible refine Kd.C_drewN ?_ _) | (with_reducible refine Kd.C_drew ?_))); (case side4 => exact HC428_0.out); rintro e w' ⟨rfl, ⟨nd, rfl⟩⟩; (try first | exact ⟨rfl, _, World.drewN_drewN _ _ _⟩ | exact ⟨rfl, _, Eq.trans (World.drewN_drewN _ _ _) (congrArg (World.drewN _) (Nat.add_assoc _ _ _))⟩))))
                go_roundg k1
                case measure => have := HK1.out; omega
                case rel => exact ⟨(wrap64 (x5_1 + 1)), (by first | rfl | (simp; done) | (simp [*]; done)), H', ⟨by have := HK1.out; omega⟩, by repeat (first | exact Drawn0.refl _ | apply Drawn0.step)⟩
              · replace c8 := Bool.eq_false_iff.mpr c8
                subst c8
                have H1 : (some false) = some r := by rw [if_neg (show ¬ (false = true) by decide)] at H; exact H
                clear H
                have H := H1
                clear H1
                obtain rfl := Option.some.inj H
                have p427 : 0 ≤ (x5_1 : Int) := of_decide_eq_true (by first | (with_reducible assumption) | assumption)
                have q427 : x5_1 < (l0.length : Int) := of_decide_eq_true (by first | (with_reducible assumption) | assumption)
                obtain ⟨ad427, A427_0, c427_0, e427, hx427_0, hl427_0, hi427_0⟩ := at_L2 HR0.out x5_1 p427 q427
                cases e427
                have HR427_0 := Aside0.mk hi427_0
                have HC427_0 := Aside0.mk hl427_0
                clear hi427_0 hl427_0
                replace p427 := eq_true p427
                replace q427 := eq_true q427
                have p428 : 0 ≤ (x5_1 : Int) := of_decide_eq_true (by first | (with_reducible assumption) | assumption)
                have q428 : x5_1 < (l1.length : Int) := of_decide_eq_true (by first | (with_reducible assumption) | assumption)
                obtain ⟨ad428, A428_0, c428_0, e428, hx428_0, hl428_0, hi428_0⟩ := at_L2 HR1.out x5_1 p428 q428
                cases e428
                have HR428_0 := Aside0.mk hi428_0
                have HC428_0 := Aside0.mk hl428_0
                clear hi428_0 hl428_0
                replace p428 := eq_true p428
                replace q428 := eq_true q428
                go_wp2_with (first | (go_at_call 45; (with_reducible refine (laws_eqIntS.calls k1 _ _ (rd_L2 l0 x5_1) _ _ (rd_L2 l1 x5_1) false _ ?side1 ?side2 ?side3 ?side4 A7.out).mono ?_); (case side1 => repeat (first | exact HR427_0.out | (with_reducible refine Kd.C_alloc ?_ _) | (with_reducible refine Kd.C_drewN ?_ _) | (with_reducible refine Kd.C_drew ?_))); (case side2 => exact HC427_0.out); (case side3 => repeat (first | exact HR428_0.out | (with_reducible refine Kd.C_alloc ?_ _) | (with_reducible refine Kd.C_drewN ?_ _) | (with_reducible refine Kd.C_drew ?_))); (case side4 => exact HC428_0.out); rintro e w' ⟨rfl, ⟨nd, rfl⟩⟩; (try first | exact ⟨rfl, _, World.drewN_drewN _ _ _⟩ | exact ⟨rfl, _, Eq.trans (World.drewN_drewN _ _ _) (congrArg (World.drewN _) (Nat.add_assoc _ _ _))⟩)))
                repeat (go_quiet (first | (go_at_call 45; (with_reducible refine (laws_eqIntS.calls k1 _ _ (rd_L2 l0 x5_1) _ _ (rd_L2 l1 x5_1) false _ ?side1 ?side2 ?side3 ?side4 A7.out).mono ?_); (case side1 => repeat (first | exact HR427_0.out | (with_reducible refine Kd.C_alloc ?_ _) | (with_reducible refine Kd.C_drewN ?_ _) | (with_reducible refine Kd.C_drew ?_))); (case side2 => exact HC427_0.out); (case side3 => repeat (first | exact HR428_0.out | (with_reducible refine Kd.C_alloc ?_ _) | (with_reducible refine Kd.C_drewN ?_ _) | (with_reducible refine Kd.C_drew ?_))); (case side4 => exact HC428_0.out); rintro e w' ⟨rfl, ⟨nd, rfl⟩⟩; (try first | exact ⟨rfl, _, World.drewN_drewN _ _ _⟩ | exact ⟨rfl, _, Eq.trans (World.drewN_drewN _ _ _) (congrArg (World.drewN _) (Nat.add_assoc _ _ _))⟩))); try go_wp2_with (first | (go_at_call 45; (with_reducible refine (laws_eqIntS.calls k1 _ _ (rd_L2 l0 x5_1) _ _ (rd_L2 l1 x5_1) false _ ?side1 ?side2 ?side3 ?side4 A7.out).mono ?_); (case side1 => repeat (first | exact HR427_0.out | (with_reducible refine Kd.C_alloc ?_ _) | (with_reducible refine Kd.C_drewN ?_ _) | (with_reducible refine Kd.C_drew ?_))); (case side2 => exact HC427_0.out); (case side3 => repeat (first | exact HR428_0.out | (with_reducible refine Kd.C_alloc ?_ _) | (with_reducible refine Kd.C_drewN ?_ _) | (with_reducible refine Kd.C_drew ?_))); (case side4 => exact HC428_0.out); rintro e w' ⟨rfl, ⟨nd, rfl⟩⟩; (try first | exact ⟨rfl, _, World.drewN_drewN _ _ _⟩ | exact ⟨rfl, _, Eq.trans (World.drewN_drewN _ _ _) (congrArg (World.drewN _) (Nat.add_assoc _ _ _))⟩))))
                go_ret
                exact ⟨by first | rfl | (simp; done) | (simp [*]; done), by repeat (first | exact Drawn0.refl _ | apply Drawn0.step)⟩
            · rw [if_neg c6] at H
              exact absurd H (by simp)
          · rw [if_neg c5] at H
            exact absurd H (by simp)
        · rw [if_neg c4] at H
          have c4b0 : decide (x5_1 < (l0.length : Int)) = false := decide_eq_false c4
          clear c4
          obtain rfl := Option.some.inj H
          go_wp2
          repeat (go_quiet (fail); try go_wp2)
          go_ret
          exact ⟨by first | rfl | (simp; done) | (simp [*]; done), by repeat (first | exact Drawn0.refl _ | apply Drawn0.step)⟩
  · rw [if_neg c3] at H
    have c3b0 : ((l0.length : Int) == (l1.length : Int)) = false := beq_eq_false_iff_ne.mpr c3
    have c3b1 : ((l0.length : Int) != (l1.length : Int)) = true := bne_iff_ne.mpr c3
    have c3b2 : (l0.length == l1.length) = false := by first | simpa using c3 | (simp at c3 ⊢; omega)
    obtain rfl := Option.some.inj H
    go_enter Try.func38, Try.ntmps38
    go_wp2
    repeat (go_quiet (fail); try go_wp2)
    go_ret
    exact ⟨by first | rfl | (simp; done) | (simp [*]; done), by repeat (first | exact Drawn0.refl _ | apply Drawn0.step)⟩

end Go.Proofs.Ytllnieknogficaa.K
namespace Go.Proofs.Ytllnieknogficaa.K
open Go.RowKit Go.Proofs.YtllnieknogficaaW.PrintWords Go.Proofs.YtllnieknogficaaW.PrintLast Go.Proofs.YtllnieknogficaaW.PrintMore
attribute [local go_sem] max2_int min2_int max_two min_two max_three min_three max_four min_four   -- for this text's walks alone
set_option linter.unusedVariables false
set_option linter.unusedSimpArgs false

/-! ### laws_heldIntS: function 47 -/
def laws_heldIntS.l0 : Nat → List Int → Int → Int → Option (Int)
  | 0, _, _, _ => none
  | k + 1, x0, x1, x5 => if x5 < (x0.length : Int) then (if 0 ≤ x5 then (if (rd x0 x5) = x1 then (laws_heldIntS.l0 k x0 (wrap64 (x1 + 1)) (wrap64 (x5 + 1))) else (some (-1))) else (none)) else (some x1)
def laws_heldIntS.f (k : Nat) (l0 : List Int) (a1 : Int) : Option (Int) := laws_heldIntS.l0 k l0 a1 0
theorem laws_heldIntS.mono_l : ∀ k, (∀ y0 y1 y2, LeO (laws_heldIntS.l0 k y0 y1 y2) (laws_heldIntS.l0 (k + 1) y0 y1 y2))
  | 0 => fun _ _ _ r h => by simp [laws_heldIntS.l0] at h
  | k + 1 => by
    have ih0 := laws_heldIntS.mono_l k
    · intro y0 y1 y2
      unfold laws_heldIntS.l0
      repeat' first
      | (with_reducible exact ih0 _ _ _)
      | (with_reducible exact LeO.refl _)
      | (with_reducible exact LeO.none _)
      | (with_reducible refine LeO.ite ?_ ?_)
      | (with_reducible refine LeO.bind ?_ (fun _ => ?_))
      | exact ih0 _ _ _
      | exact LeO.none _
      | refine LeO.ite ?_ ?_
      | refine LeO.bind ?_ (fun _ => ?_)
theorem laws_heldIntS.mono : ∀ a0 a1 k, LeO (laws_heldIntS.f k a0 a1) (laws_heldIntS.f (k + 1) a0 a1) := by
  intro a0 a1 k
  have ih0 := laws_heldIntS.mono_l k
  unfold laws_heldIntS.f
  repeat' first
      | (with_reducible exact ih0 _ _ _)
      | (with_reducible exact LeO.refl _)
      | (with_reducible exact LeO.none _)
      | (with_reducible refine LeO.ite ?_ ?_)
      | (with_reducible refine LeO.bind ?_ (fun _ => ?_))
      | exact ih0 _ _ _
      | exact LeO.none _
      | refine LeO.ite ?_ ?_
      | refine LeO.bind ?_ (fun _ => ?_)
set_option maxHeartbeats 8000000 in
set_option maxRecDepth 100000 in
theorem laws_heldIntS.calls (k : Nat) (A0 : Option Addr) (c0 : Nat) (l0 : List Int) (a1 : Int) (r : Int) (w : World) (hr0 : Kd.C (Kd.int .i64) w A0 l0.length l0) (hc0 : l0.length ≤ c0) (h : laws_heldIntS.f k l0 a1 = some r) :
    Calls Try.prog 47 #[.slice A0 l0.length c0, .int .i64 a1] w fun e w' => e = .returned (.int .i64 r) ∧ Drawn0 w w' := by
  have HR0 := Aside0.mk hr0
  have HC0 := Aside0.mk hc0
  clear hr0 hc0
  have H : (laws_heldIntS.l0 k l0 a1 0) = some r := h
  clear h
  have H' := Aside0.mk H
  clear H
  go_enter Try.func47, Try.ntmps47
  go_wp2
  go_loopg [1, 5] k (fun kq v1 v5 w' => ∃ (x1_1 : Int) (x5_1 : Int), v1 = .int .i64 x1_1 ∧ v5 = .int .i64 x5_1 ∧ Aside0 (laws_heldIntS.l0 kq l0 x1_1 x5_1 = some r) ∧ Aside0 (kq ≤ k) ∧ Drawn0 w w')
  case atStart => exact ⟨(a1), (0), (by first | rfl | (simp; done) | (simp [*]; done)), (by first | rfl | (simp; done) | (simp [*]; done)), H', ⟨Nat.le_refl _⟩, by repeat (first | exact Drawn0.refl _ | apply Drawn0.step)⟩
  case round =>
    clear H'
    try clear p2
    obtain ⟨x1_1, x5_1, rfl, rfl, HA, HK1, ⟨m1, rfl⟩⟩ := hrel
    cases gk with
    | zero => exact absurd HA.out (by simp [laws_heldIntS.l0])
    | succ k1 =>
      have H := HA.out
      clear HA
      simp only [laws_heldIntS.l0] at H
      by_cases c3 : x5_1 < (l0.length : Int)
      · rw [if_pos c3] at H
        have c3b0 : decide (x5_1 < (l0.length : Int)) = true := decide_eq_true c3
        clear c3
        by_cases c4 : 0 ≤ x5_1
        · rw [if_pos c4] at H
          have c4b0 : decide (0 ≤ x5_1) = true := decide_eq_true c4
          clear c4
          by_cases c5 : (rd l0 x5_1) = x1_1
          · rw [if_pos c5] at H
            have c5b0 : ((rd l0 x5_1) == x1_1) = true := beq_iff_eq.mpr c5
            have c5b1 : ((rd l0 x5_1) != x1_1) = false := bne_eq_false_iff_eq.mpr c5
            clear c5
            have H' := Aside0.mk H
            clear H
            have p431 : 0 ≤ (x5_1 : Int) := of_decide_eq_true (by first | (with_reducible assumption) | assumption)
            have q431 : x5_1 < (l0.length : Int) := of_decide_eq_true (by first | (with_reducible assumption) | assumption)
            obtain ⟨ad431, e431, hx431_0⟩ := Kd.at_int HR0.out x5_1 p431 q431
            cases e431
            replace p431 := eq_true p431
            replace q431 := eq_true q431
            go_wp2
            go_roundg k1
            case measure => have := HK1.out; omega
            case rel => exact ⟨(wrap64 (x1_1 + 1)), (wrap64 (x5_1 + 1)), (by first | rfl | (simp; done) | (simp [*]; done)), (by first | rfl | (simp; done) | (simp [*]; done)), H', ⟨by have := HK1.out; omega⟩, by repeat (first | exact Drawn0.refl _ | apply Drawn0.step)⟩
          · rw [if_neg c5] at H
            have c5b0 : ((rd l0 x5_1) == x1_1) = false := beq_eq_false_iff_ne.mpr c5
            have c5b1 : ((rd l0 x5_1) != x1_1) = true := bne_iff_ne.mpr c5
            obtain rfl := Option.some.inj H
            have p431 : 0 ≤ (x5_1 : Int) := of_decide_eq_true (by first | (with_reducible assumption) | assumption)
            have q431 : x5_1 < (l0.length : Int) := of_decide_eq_true (by first | (with_reducible assumption) | assumption)
            obtain ⟨ad431, e431, hx431_0⟩ := Kd.at_int HR0.out x5_1 p431 q431
            cases e431
            replace p431 := eq_true p431
            replace q431 := eq_true q431
            go_wp2
            go_ret
            exact ⟨by first | rfl | (simp; done) | (simp [*]; done), by repeat (first | exact Drawn0.refl _ | apply Drawn0.step)⟩
        · rw [if_neg c4] at H
          exact absurd H (by simp)
      · rw [if_neg c3] at H
        have c3b0 : decide (x5_1 < (l0.length : Int)) = false := decide_eq_false c3
        clear c3
        obtain rfl := Option.some.inj H
        go_wp2
        go_ret
        exact ⟨by first | rfl | (simp; done) | (simp [*]; done), by repeat (first | exact Drawn0.refl _ | apply Drawn0.step)⟩

end Go.Proofs.Ytllnieknogficaa.K
namespace Go.Proofs.Ytllnieknogficaa.K
open Go.RowKit Go.Proofs.YtllnieknogficaaW.PrintWords Go.Proofs.YtllnieknogficaaW.PrintLast Go.Proofs.YtllnieknogficaaW.PrintMore
attribute [local go_sem] max2_int min2_int max_two min_two max_three min_three max_four min_four   -- for this text's walks alone
set_option linter.unusedVariables false
set_option linter.unusedSimpArgs false

/-! ### laws_heldIntSS: function 40 -/
def laws_heldIntSS.l0 : Nat → List (List Int) → Int → Int → Option (Int)
  | 0, _, _, _ => none
  | k + 1, x0, x1, x5 => if x5 < (x0.length : Int) then (if 0 ≤ x5 then ((laws_heldIntS.f k (rd_L2 x0 x5) x1).bind fun t433 => (if t433 < 0 then (some (-1)) else (laws_heldIntSS.l0 k x0 t433 (wrap64 (x5 + 1))))) else (none)) else (some x1)
def laws_heldIntSS.f (k : Nat) (l0 : List (List Int)) (a1 : Int) : Option (Int) := laws_heldIntSS.l0 k l0 a1 0
theorem laws_heldIntSS.mono_l : ∀ k, (∀ y0 y1 y2, LeO (laws_heldIntSS.l0 k y0 y1 y2) (laws_heldIntSS.l0 (k + 1) y0 y1 y2))
  | 0 => fun _ _ _ r h => by simp [laws_heldIntSS.l0] at h
  | k + 1 => by
    have ih0 := laws_heldIntSS.mono_l k
    · intro y0 y1 y2
      unfold laws_heldIntSS.l0
      repeat' first
      | (with_reducible exact ih0 _ _ _)
      | (with_reducible exact laws_heldIntS.mono _ _ _)
      | (with_reducible exact LeO.refl _)
      | (with_reducible exact LeO.none _)
      | (with_reducible refine LeO.ite ?_ ?_)
      | (with_reducible refine LeO.bind ?_ (fun _ => ?_))
      | exact ih0 _ _ _
      | exact laws_heldIntS.mono _ _ _
      | exact LeO.none _
      | refine LeO.ite ?_ ?_
      | refine LeO.bind ?_ (fun _ => ?_)
theorem laws_heldIntSS.mono : ∀ a0 a1 k, LeO (laws_heldIntSS.f k a0 a1) (laws_heldIntSS.f (k + 1) a0 a1) := by
  intro a0 a1 k
  have ih0 := laws_heldIntSS.mono_l k
  unfold laws_heldIntSS.f
  repeat' first
      | (with_reducible exact ih0 _ _ _)
      | (with_reducible exact laws_heldIntS.mono _ _ _)
      | (with_reducible exact LeO.refl _)
      | (with_reducible exact LeO.none _)
      | (with_reducible refine LeO.ite ?_ ?_)
      | (with_reducible refine LeO.bind ?_ (fun _ => ?_))
      | exact ih0 _ _ _
      | exact laws_heldIntS.mono _ _ _
      | exact LeO.none _
      | refine LeO.ite ?_ ?_
      | refine LeO.bind ?_ (fun _ => ?_)
set_option maxHeartbeats 8000000 in
set_option maxRecDepth 100000 in
theorem laws_heldIntSS.calls (k : Nat) (A0 : Option Addr) (c0 : Nat) (l0 : List (List Int)) (a1 : Int) (r : Int) (w : World) (hr0 : Kd.C (Kd.slice 3 (Kd.int .i64)) w A0 l0.length l0) (hc0 : l0.length ≤ c0) (h : laws_heldIntSS.f k l0 a1 = some r) :
    Calls Try.prog 40 #[.slice A0 l0.length c0, .int .i64 a1] w fun e w' => e = .returned (.int .i64 r) ∧ Drawn0 w w' := by
  have HR0 := Aside0.mk hr0
  have HC0 := Aside0.mk hc0
  clear hr0 hc0
  have H : (laws_heldIntSS.l0 k l0 a1 0) = some r := h
  clear h
  have H' := Aside0.mk H
  clear H
  go_enter Try.func40, Try.ntmps40
  go_wp2
  go_loopg [1, 5] k (fun kq v1 v5 w' => ∃ (x1_1 : Int) (x5_1 : Int), v1 = .int .i64 x1_1 ∧ v5 = .int .i64 x5_1 ∧ Aside0 (laws_heldIntSS.l0 kq l0 x1_1 x5_1 = some r) ∧ Aside0 (kq ≤ k) ∧ Drawn0 w w')
  case atStart => exact ⟨(a1), (0), (by first | rfl | (simp; done) | (simp [*]; done)), (by first | rfl | (simp; done) | (simp [*]; done)), H', ⟨Nat.le_refl _⟩, by repeat (first | exact Drawn0.refl _ | apply Drawn0.step)⟩
  case round =>
    clear H'
    try clear p2
    obtain ⟨x1_1, x5_1, rfl, rfl, HA, HK1, ⟨m1, rfl⟩⟩ := hrel
    cases gk with
    | zero => exact absurd HA.out (by simp [laws_heldIntSS.l0])
    | succ k1 =>
      have H := HA.out
      clear HA
      simp only [laws_heldIntSS.l0] at H
      by_cases c3 : x5_1 < (l0.length : Int)
      · rw [if_pos c3] at H
        have c3b0 : decide (x5_1 < (l0.length : Int)) = true := decide_eq_true c3
        clear c3
        by_cases c4 : 0 ≤ x5_1
        · rw [if_pos c4] at H
          have c4b0 : decide (0 ≤ x5_1) = true := decide_eq_true c4
          clear c4
          replace H := Option.bind_eq_some_iff.mp H
          obtain ⟨t433, A50, H⟩ := H
          replace H : (if t433 < 0 then (some (-1)) else (laws_heldIntSS.l0 k1 l0 t433 (wrap64 (x5_1 + 1)))) = some r := H
          have A5 := Aside0.mk A50
          clear A50
          by_cases c6 : t433 < 0
          · rw [if_pos c6] at H
            have c6b0 : decide (t433 < 0) = true := decide_eq_true c6
            clear c6
            obtain rfl := Option.some.inj H
            have p432 : 0 ≤ (x5_1 : Int) := of_decide_eq_true (by first | (with_reducible assumption) | assumption)
            have q432 : x5_1 < (l0.length : Int) := of_decide_eq_true (by first | (with_reducible assumption) | assumption)
            obtain ⟨ad432, A432_0, c432_0, e432, hx432_0, hl432_0, hi432_0⟩ := at_L2 HR0.out x5_1 p432 q432
            cases e432
            have HR432_0 := Aside0.mk hi432_0
            have HC432_0 := Aside0.mk hl432_0
            clear hi432_0 hl432_0
            replace p432 := eq_true p432
            replace q432 := eq_true q432
            go_wp2_with (first | ((with_reducible refine gate_callee (f := 47) rfl ?_); refine goesL_ (some 17) rfl rfl Try.func47 (by kernel_rfl) rfl #[.slice A432_0 (rd_L2 l0 x5_1).length c432_0, .int .i64 x1_1] rfl (by (try simp only [List.map_toArray, List.map_cons, List.map_nil]); first | done | rfl | (simp only [List.length_drop, List.length_take]; rfl)) ?_; (with_reducible refine (laws_heldIntS.calls k1 _ _ (rd_L2 l0 x5_1) x1_1 t433 _ ?side1 ?side2 A5.out).mono ?_); (case side1 => repeat (first | exact HR432_0.out | (with_reducible refine Kd.C_alloc ?_ _) | (with_reducible refine Kd.C_drewN ?_ _) | (with_reducible refine Kd.C_drew ?_))); (case side2 => exact HC432_0.out); rintro e w' ⟨rfl, ⟨nd, rfl⟩⟩; refine ⟨_, rfl, ?_⟩))
            go_ret
            exact ⟨by first | rfl | (simp; done) | (simp [*]; done), by repeat (first | exact Drawn0.refl _ | apply Drawn0.step)⟩
          · rw [if_neg c6] at H
            have c6b0 : decide (t433 < 0) = false := decide_eq_false c6
            clear c6
            have H' := Aside0.mk H
            clear H
            have p432 : 0 ≤ (x5_1 : Int) := of_decide_eq_true (by first | (with_reducible assumption) | assumption)
            have q432 : x5_1 < (l0.length : Int) := of_decide_eq_true (by first | (with_reducible assumption) | assumption)
            obtain ⟨ad432, A432_0, c432_0, e432, hx432_0, hl432_0, hi432_0⟩ := at_L2 HR0.out x5_1 p432 q432
            cases e432
            have HR432_0 := Aside0.mk hi432_0
            have HC432_0 := Aside0.mk hl432_0
            clear hi432_0 hl432_0
            replace p432 := eq_true p432
            replace q432 := eq_true q432
            go_wp2_with (first | ((with_reducible refine gate_callee (f := 47) rfl ?_); refine goesL_ (some 17) rfl rfl Try.func47 (by kernel_rfl) rfl #[.slice A432_0 (rd_L2 l0 x5_1).length c432_0, .int .i64 x1_1] rfl (by (try simp only [List.map_toArray, List.map_cons, List.map_nil]); first | done | rfl | (simp only [List.length_drop, List.length_take]; rfl)) ?_; (with_reducible refine (laws_heldIntS.calls k1 _ _ (rd_L2 l0 x5_1) x1_1 t433 _ ?side1 ?side2 A5.out).mono ?_); (case side1 => repeat (first | exact HR432_0.out | (with_reducible refine Kd.C_alloc ?_ _) | (with_reducible refine Kd.C_drewN ?_ _) | (with_reducible refine Kd.C_drew ?_))); (case side2 => exact HC432_0.out); rintro e w' ⟨rfl, ⟨nd, rfl⟩⟩; refine ⟨_, rfl, ?_⟩))
            go_roundg k1
            case measure => have := HK1.out; omega
            case rel => exact ⟨(t433), (wrap64 (x5_1 + 1)), (by first | rfl | (simp; done) | (simp [*]; done)), (by first | rfl | (simp; done) | (simp [*]; done)), H', ⟨by have := HK1.out; omega⟩, by repeat (first | exact Drawn0.refl _ | apply Drawn0.step)⟩
        · rw [if_neg c4] at H
          exact absurd H (by simp)
      · rw [if_neg c3] at H
        have c3b0 : decide (x5_1 < (l0.length : Int)) = false := decide_eq_false c3
        clear c3
        obtain rfl := Option.some.inj H
        go_wp2
        go_ret
        exact ⟨by first | rfl | (simp; done) | (simp [*]; done), by repeat (first | exact Drawn0.refl _ | apply Drawn0.step)⟩

end Go.Proofs.Ytllnieknogficaa.K
namespace Go.Proofs.Ytllnieknogficaa.K
open Go.RowKit Go.Proofs.YtllnieknogficaaW.PrintWords Go.Proofs.YtllnieknogficaaW.PrintLast Go.Proofs.YtllnieknogficaaW.PrintMore
attribute [local go_sem] max2_int min2_int max_two min_two max_three min_three max_four min_four   -- for this text's walks alone
set_option linter.unusedVariables false
set_option linter.unusedSimpArgs false

/-! ### laws_toIntS: function 42 -/
def laws_toIntS.l0 : Nat → List Int → List Int → Int → Option (List Int)
  | 0, _, _, _ => none
  | k + 1, x0, x3, x4 => if x4 < (x0.length : Int) then (if 0 ≤ x4 then (if x4 < (x3.length : Int) then (laws_toIntS.l0 k x0 (x3.set (x4 : Int).toNat (rd x0 x4)) (wrap64 (x4 + 1))) else (none)) else (none)) else (some x3)
def laws_toIntS.f (k : Nat) (l0 : List Int) : Option (List Int) := if 0 ≤ (l0.length : Int) then (if ((l0.length : Int) : Int).toNat ≤ 35184372088832 then (laws_toIntS.l0 k l0 (List.replicate ((l0.length : Int) : Int).toNat 0) 0) else (none)) else (none)
theorem laws_toIntS.mono_l : ∀ k, (∀ y0 y1 y2, LeO (laws_toIntS.l0 k y0 y1 y2) (laws_toIntS.l0 (k + 1) y0 y1 y2))
  | 0 => fun _ _ _ r h => by simp [laws_toIntS.l0] at h
  | k + 1 => by
    have ih0 := laws_toIntS.mono_l k
    · intro y0 y1 y2
      unfold laws_toIntS.l0
      repeat' first
      | (with_reducible exact ih0 _ _ _)
      | (with_reducible exact LeO.refl _)
      | (with_reducible exact LeO.none _)
      | (with_reducible refine LeO.ite ?_ ?_)
      | (with_reducible refine LeO.bind ?_ (fun _ => ?_))
      | exact ih0 _ _ _
      | exact LeO.none _
      | refine LeO.ite ?_ ?_
      | refine LeO.bind ?_ (fun _ => ?_)
theorem laws_toIntS.mono : ∀ a0 k, LeO (laws_toIntS.f k a0) (laws_toIntS.f (k + 1) a0) := by
  intro a0 k
  have ih0 := laws_toIntS.mono_l k
  unfold laws_toIntS.f
  repeat' first
      | (with_reducible exact ih0 _ _ _)
      | (with_reducible exact LeO.refl _)
      | (with_reducible exact LeO.none _)
      | (with_reducible refine LeO.ite ?_ ?_)
      | (with_reducible refine LeO.bind ?_ (fun _ => ?_))
      | exact ih0 _ _ _
      | exact LeO.none _
      | refine LeO.ite ?_ ?_
      | refine LeO.bind ?_ (fun _ => ?_)
set_option maxHeartbeats 8000000 in
set_option maxRecDepth 100000 in
theorem laws_toIntS.calls (k : Nat) (A0 : Option Addr) (c0 : Nat) (l0 : List Int) (r : List Int) (w : World) (hr0 : Kd.C (Kd.int .i64) w A0 l0.length l0) (hc0 : l0.length ≤ c0) (h : laws_toIntS.f k l0 = some r) :
    Calls Try.prog 42 #[.slice A0 l0.length c0] w fun e w' => ∃ v0_ : Value, e = .returned (v0_) ∧ Kd.R (Kd.int .i64) 3 w' w.heap.size (fun _ => True) v0_ r ∧ Below w.heap.size w w' := by
  have HR0 := Aside0.mk hr0
  have HC0 := Aside0.mk hc0
  clear hr0 hc0
  have HB := Aside0.mk (Below.refl w.heap.size w)
  have H : (if 0 ≤ (l0.length : Int) then (if ((l0.length : Int) : Int).toNat ≤ 35184372088832 then (laws_toIntS.l0 k l0 (List.replicate ((l0.length : Int) : Int).toNat 0) 0) else (none)) else (none)) = some r := h
  clear h
  by_cases c2 : 0 ≤ (l0.length : Int)
  · rw [if_pos c2] at H
    have c2b0 := eq_true c2
    have c2b1 : decide (0 ≤ (l0.length : Int)) = true := decide_eq_true c2
    clear c2
    by_cases c3 : ((l0.length : Int) : Int).toNat ≤ 35184372088832
    · rw [if_pos c3] at H
      have c3b0 := eq_true c3
      have c3b1 : decide (((l0.length : Int) : Int).toNat ≤ 35184372088832) = true := decide_eq_true c3
      clear c3
      obtain ⟨y397, hy397⟩ : ∃ y_ : List Int, y_ = (List.replicate ((l0.length : Int) : Int).toNat 0) := ⟨_, rfl⟩
      replace H : (laws_toIntS.l0 k l0 y397 0) = some r := by first | (rw [hy397]; with_reducible exact H) | (have H2_ := (Option.bind_some _ _).symm.trans H; rw [hy397]; with_reducible exact H2_) | (have H2_ := (Option.bind_some _ _).symm.trans H; with_reducible exact H2_) | with_reducible exact H | (rw [hy397]; exact H) | exact H
      have Ny397 := Aside0.mk hy397
      clear hy397
      have H' := Aside0.mk H
      clear H
      go_enter Try.func42, Try.ntmps42
      go_wp2_with (first | ((with_reducible refine gate_dst (N := 7) rfl ?_); refine Kd.R_make (Kd.int .i64) _ 3 rfl (N := 7) rfl 24 _ _ rfl (l0.length : Int) rfl rfl Try.underlying24 (.int .i64 0) 8 info3 rfl (by decide) (by omega) 0 (ok := fun _ => True) (okp := fun _ => True) rfl (fun _ hk => hk) trivial (of_decide_eq_true (by first | (with_reducible assumption) | assumption)) (Nat.le_trans (Nat.mul_le_mul_right _ (of_decide_eq_true (by first | (with_reducible assumption) | assumption) : (l0.length : Int).toNat ≤ 35184372088832)) (by omega)) (Below.refl _ _) (Nat.le_refl _) ?_; intro v398 w4 ho5 hb hg_ hnew_; clear hg_ hnew_; (first | rw [← Ny397.out] at ho5 | (simp only [Int.reduceToNat] at ho5; rw [← Ny397.out] at ho5)); have n0_ := Aside0.mk (Kd.R_lower ho5 (below_size (by repeat (first | (with_reducible first | exact HB.out | apply below_alloc | apply pw_below_drewN | apply below_drew1) | exact HB.out)))); have n1_ := Aside0.mk (below_step (by repeat (first | (with_reducible first | exact HB.out | apply below_alloc | apply pw_below_drewN | apply below_drew1) | exact HB.out)) hb); clear HB; have HO399 := n0_; have HB := n1_; clear n0_ n1_; clear hb ho5))
      go_loopg [4] k (fun kq v4 w' => ∃ (x3_1 : List Int) (x4_1 : Int), v4 = .int .i64 x4_1 ∧ Aside0 (laws_toIntS.l0 kq l0 x3_1 x4_1 = some r) ∧ Aside0 (kq ≤ k) ∧ Aside0 (Kd.R (Kd.int .i64) 3 w' w.heap.size (fun _ => True) v398 x3_1) ∧ Aside0 (Below w.heap.size w w'))
      case atStart => exact ⟨(y397), (0), (by first | rfl | (simp; done) | (simp [*]; done)), H', ⟨Nat.le_refl _⟩, ⟨by (with_reducible repeat (first | apply Kd.R_alloc | apply Kd.R_drewN | apply Kd.R_drew)); exact HO399.out⟩, ⟨by repeat (first | (with_reducible first | exact HB.out | apply below_alloc | apply pw_below_drewN | apply below_drew1) | exact HB.out)⟩⟩
      case round =>
        clear H'
        try clear c2
        try clear c2b0
        try clear c2b1
        try clear p2
        try clear c3
        try clear c3b0
        try clear c3b1
        try clear c4
        obtain ⟨x3_1, x4_1, rfl, HA, HK1, HO_3, HB⟩ := hrel
        cases gk with
        | zero => exact absurd HA.out (by simp [laws_toIntS.l0])
        | succ k1 =>
          have H := HA.out
          clear HA
          simp only [laws_toIntS.l0] at H
          by_cases c6 : x4_1 < (l0.length : Int)
          · rw [if_pos c6] at H
            have c6b0 : decide (x4_1 < (l0.length : Int)) = true := decide_eq_true c6
            clear c6
            by_cases c7 : 0 ≤ x4_1
            · rw [if_pos c7] at H
              have c7b0 : decide (0 ≤ x4_1) = true := decide_eq_true c7
              clear c7
              by_cases c8 : x4_1 < (x3_1.length : Int)
              · rw [if_pos c8] at H
                have c8b0 : decide (x4_1 < (x3_1.length : Int)) = true := decide_eq_true c8
                clear c8
                obtain ⟨y401, hy401⟩ : ∃ y_ : List Int, y_ = (x3_1.set (x4_1 : Int).toNat (rd l0 x4_1)) := ⟨_, rfl⟩
                replace H : (laws_toIntS.l0 k1 l0 y401 (wrap64 (x4_1 + 1))) = some r := by first | (rw [hy401]; with_reducible exact H) | (have H2_ := (Option.bind_some _ _).symm.trans H; rw [hy401]; with_reducible exact H2_) | (have H2_ := (Option.bind_some _ _).symm.trans H; with_reducible exact H2_) | with_reducible exact H | (rw [hy401]; exact H) | exact H
                have Ny401 := Aside0.mk hy401
                clear hy401
                have H' := Aside0.mk H
                clear H
                have p400 : 0 ≤ (x4_1 : Int) := of_decide_eq_true (by first | (with_reducible assumption) | assumption)
                have q400 : x4_1 < (l0.length : Int) := of_decide_eq_true (by first | (with_reducible assumption) | assumption)
                obtain ⟨ad400, e400, hx400_0⟩ := Kd.at_int HR0.out x4_1 p400 q400
                cases e400
                replace hx400_0 := (HB.out.cell (World.block_lt_of_cell? w _ hx400_0)).trans hx400_0
                replace p400 := eq_true p400
                replace q400 := eq_true q400
                have p9 : 0 ≤ (x4_1 : Int) := of_decide_eq_true (by first | (with_reducible assumption) | assumption)
                have q9 : (x4_1 : Int) < ((x3_1.length : Int) : Int) := of_decide_eq_true (by first | (with_reducible assumption) | assumption)
                obtain ⟨go9, co9, eo9, gb9, gl9, cl9, HG9⟩ := Kd.R_form HO_3.out (by omega)
                (first | cases eo9 | (injection eo9 with ea_ en_ ec_; (first | subst ea_ | (injection ea_ with ea_; subst ea_)); subst ec_; clear en_))
                have GB9 := Aside0.mk gb9
                have GG9 := Aside0.mk HG9
                clear gb9 gl9 HG9
                obtain ⟨hx9_0, hf9_0⟩ := Kd.R_celln 0 HO_3.out (x4_1 : Int) p9 q9
                replace p9 := eq_true p9
                replace q9 := eq_true q9
                have HP10 := Kd.R_putg HO_3.out (x4_1 : Int) (rd l0 x4_1)
                go_wp2_with (first | ((with_reducible refine gate_store (t := 3) (p := 20) rfl ?_); refine store_event (t := 3) (p := 20) (v := ?vo_w11) (w1 := (wr.setCell ⟨go9, (x4_1 : Int).toNat, none⟩ (.int .i64 (rd l0 x4_1)))) ?hg ?ho ?hn ?hr ?_; (case ho => rfl); (case hg => rfl); (case hn => rfl); (case hr => first | (go_simp; done) | (go_simp; rfl)); intro w11 hw; have hg : wr.grownBy w11 (some go9) := (by rw [hw]; exact HP10.2); have hp_ : Kd.R (Kd.int .i64) 3 w11 w.heap.size (fun _ => True) (.slice (some ⟨go9, 0, none⟩) x3_1.length co9) y401 := (by rw [hw, Ny401.out]; exact HP10.1); clear HP10; have n0_ := Aside0.mk (hp_); have n1_ := Aside0.mk ((by rw [hw]; exact below_set (HB.out) GB9.out : Below w.heap.size w w11)); clear HO_3; clear HB; have HO_3 := n0_; have HB := n1_; clear n0_ n1_; clear hg hw hp_))
                go_roundg k1
                case measure => have := HK1.out; omega
                case rel => exact ⟨(y401), (wrap64 (x4_1 + 1)), (by first | rfl | (simp; done) | (simp [*]; done)), H', ⟨by have := HK1.out; omega⟩, ⟨by (with_reducible repeat (first | apply Kd.R_alloc | apply Kd.R_drewN | apply Kd.R_drew)); exact HO_3.out⟩, ⟨by repeat (first | (with_reducible first | exact HB.out | apply below_alloc | apply pw_below_drewN | apply below_drew1) | exact HB.out)⟩⟩
              · rw [if_neg c8] at H
                exact absurd H (by simp)
            · rw [if_neg c7] at H
              exact absurd H (by simp)
          · rw [if_neg c6] at H
            have c6b0 : decide (x4_1 < (l0.length : Int)) = false := decide_eq_false c6
            clear c6
            obtain rfl := Option.some.inj H
            go_wp2
            go_ret
            exact ⟨_, by first | rfl | (simp [errW_none, errW_some] <;> rfl) | (simp [*, errW_none, errW_some] <;> rfl), by (with_reducible repeat (first | apply Kd.R_alloc | apply Kd.R_drewN | apply Kd.R_drew)); exact HO_3.out, by repeat (first | (with_reducible first | exact HB.out | apply below_alloc | apply pw_below_drewN | apply below_drew1) | exact HB.out)⟩
    · rw [if_neg c3] at H
      exact absurd H (by simp)
  · rw [if_neg c2] at H
    exact absurd H (by simp)

end Go.Proofs.Ytllnieknogficaa.K
namespace Go.Proofs.Ytllnieknogficaa.K
open Go.RowKit Go.Proofs.YtllnieknogficaaW.PrintWords Go.Proofs.YtllnieknogficaaW.PrintLast Go.Proofs.YtllnieknogficaaW.PrintMore
attribute [local go_sem] max2_int min2_int max_two min_two max_three min_three max_four min_four   -- for this text's walks alone
set_option linter.unusedVariables false
set_option linter.unusedSimpArgs false

/-! ### laws_toIntSS: function 36 -/
def laws_toIntSS.l0 : Nat → List (List Int) → List (List Int) → Int → Option ((List (List Int)))
  | 0, _, _, _ => none
  | k + 1, x0, x3, x4 => if x4 < (x0.length : Int) then (if 0 ≤ x4 then ((laws_toIntS.f k (rd_L2 x0 x4)).bind fun t406 => (if x4 < (x3.length : Int) then (laws_toIntSS.l0 k x0 (x3.set (x4 : Int).toNat t406) (wrap64 (x4 + 1))) else (none))) else (none)) else (some x3)
def laws_toIntSS.f (k : Nat) (l0 : List (List Int)) : Option ((List (List Int))) := if 0 ≤ (l0.length : Int) then (if ((l0.length : Int) : Int).toNat ≤ 11728124029610 then (laws_toIntSS.l0 k l0 (List.replicate ((l0.length : Int) : Int).toNat []) 0) else (none)) else (none)
theorem laws_toIntSS.mono_l : ∀ k, (∀ y0 y1 y2, LeO (laws_toIntSS.l0 k y0 y1 y2) (laws_toIntSS.l0 (k + 1) y0 y1 y2))
  | 0 => fun _ _ _ r h => by simp [laws_toIntSS.l0] at h
  | k + 1 => by
    have ih0 := laws_toIntSS.mono_l k
    · intro y0 y1 y2
      unfold laws_toIntSS.l0
      repeat' first
      | (with_reducible exact ih0 _ _ _)
      | (with_reducible exact laws_toIntS.mono _ _)
      | (with_reducible exact LeO.refl _)
      | (with_reducible exact LeO.none _)
      | (with_reducible refine LeO.ite ?_ ?_)
      | (with_reducible refine LeO.bind ?_ (fun _ => ?_))
      | exact ih0 _ _ _
      | exact laws_toIntS.mono _ _
      | exact LeO.none _
      | refine LeO.ite ?_ ?_
      | refine LeO.bind ?_ (fun _ => ?_)
theorem laws_toIntSS.mono : ∀ a0 k, LeO (laws_toIntSS.f k a0) (laws_toIntSS.f (k + 1) a0) := by
  intro a0 k
  have ih0 := laws_toIntSS.mono_l k
  unfold laws_toIntSS.f
  repeat' first
      | (with_reducible exact ih0 _ _ _)
      | (with_reducible exact laws_toIntS.mono _ _)
      | (with_reducible exact LeO.refl _)
      | (with_reducible exact LeO.none _)
      | (with_reducible refine LeO.ite ?_ ?_)
      | (with_reducible refine LeO.bind ?_ (fun _ => ?_))
      | exact ih0 _ _ _
      | exact laws_toIntS.mono _ _
      | exact LeO.none _
      | refine LeO.ite ?_ ?_
      | refine LeO.bind ?_ (fun _ => ?_)
set_option maxHeartbeats 8000000 in
set_option maxRecDepth 100000 in
theorem laws_toIntSS.calls (k : Nat) (A0 : Option Addr) (c0 : Nat) (l0 : List (List Int)) (r : List (List Int)) (w : World) (hr0 : Kd.C (Kd.slice 3 (Kd.int .i64)) w A0 l0.length l0) (hc0 : l0.length ≤ c0) (h : laws_toIntSS.f k l0 = some r) :
    Calls Try.prog 36 #[.slice A0 l0.length c0] w fun e w' => ∃ v0_ : Value, e = .returned (v0_) ∧ Kd.S (Kd.slice 3 (Kd.int .i64)) 24 w' w.heap.size (fun _ => True) v0_ r ∧ Below w.heap.size w w' := by
  have HR0 := Aside0.mk hr0
  have HC0 := Aside0.mk hc0
  clear hr0 hc0
  have HB := Aside0.mk (Below.refl w.heap.size w)
  have H : (if 0 ≤ (l0.length : Int) then (if ((l0.length : Int) : Int).toNat ≤ 11728124029610 then (laws_toIntSS.l0 k l0 (List.replicate ((l0.length : Int) : Int).toNat []) 0) else (none)) else (none)) = some r := h
  clear h
  by_cases c2 : 0 ≤ (l0.length : Int)
  · rw [if_pos c2] at H
    have c2b0 := eq_true c2
    have c2b1 : decide (0 ≤ (l0.length : Int)) = true := decide_eq_true c2
    clear c2
    by_cases c3 : ((l0.length : Int) : Int).toNat ≤ 11728124029610
    · rw [if_pos c3] at H
      have c3b0 := eq_true c3
      have c3b1 : decide (((l0.length : Int) : Int).toNat ≤ 11728124029610) = true := decide_eq_true c3
      clear c3
      obtain ⟨y402, hy402⟩ : ∃ y_ : List (List Int), y_ = (List.replicate ((l0.length : Int) : Int).toNat []) := ⟨_, rfl⟩
      replace H : (laws_toIntSS.l0 k l0 y402 0) = some r := by first | (rw [hy402]; with_reducible exact H) | (have H2_ := (Option.bind_some _ _).symm.trans H; rw [hy402]; with_reducible exact H2_) | (have H2_ := (Option.bind_some _ _).symm.trans H; with_reducible exact H2_) | with_reducible exact H | (rw [hy402]; exact H) | exact H
      have Ny402 := Aside0.mk hy402
      clear hy402
      have H' := Aside0.mk H
      clear H
      go_enter Try.func36, Try.ntmps36
      go_wp2_with (first | ((with_reducible refine gate_dst (N := 7) rfl ?_); refine Kd.S_make (Kd.slice 3 (Kd.int .i64)) _ 24 rfl (N := 7) rfl 37 _ _ rfl (l0.length : Int) rfl rfl Try.underlying37 (.slice none 0 0) 24 info24 rfl (by decide) (by omega) [] (ok := fun _ => True) (okp := fun _ => True) ⟨_, rfl, Kd.R_nil _ _ _ _ _⟩ (fun _ hk => hk) trivial (of_decide_eq_true (by first | (with_reducible assumption) | assumption)) (Nat.le_trans (Nat.mul_le_mul_right _ (of_decide_eq_true (by first | (with_reducible assumption) | assumption) : (l0.length : Int).toNat ≤ 11728124029610)) (by omega)) (Below.refl _ _) (Nat.le_refl _) ?_; intro v403 w4 ho5 hb hg_ hnew_; clear hg_ hnew_; (first | rw [← Ny402.out] at ho5 | (simp only [Int.reduceToNat] at ho5; rw [← Ny402.out] at ho5)); have n0_ := Aside0.mk (Kd.S_lower ho5 (below_size (by repeat (first | (with_reducible first | exact HB.out | apply below_alloc | apply pw_below_drewN | apply below_drew1) | exact HB.out)))); have n1_ := Aside0.mk (below_step (by repeat (first | (with_reducible first | exact HB.out | apply below_alloc | apply pw_below_drewN | apply below_drew1) | exact HB.out)) hb); clear HB; have HO404 := n0_; have HB := n1_; clear n0_ n1_; clear hb ho5))
      go_loopg [4] k (fun kq v4 w' => ∃ (x3_1 : List (List Int)) (x4_1 : Int), v4 = .int .i64 x4_1 ∧ Aside0 (laws_toIntSS.l0 kq l0 x3_1 x4_1 = some r) ∧ Aside0 (kq ≤ k) ∧ Aside0 (Kd.S (Kd.slice 3 (Kd.int .i64)) 24 w' w.heap.size (fun _ => True) v403 x3_1) ∧ Aside0 (Below w.heap.size w w'))
      case atStart => exact ⟨(y402), (0), (by first | rfl | (simp; done) | (simp [*]; done)), H', ⟨Nat.le_refl _⟩, ⟨by (with_reducible repeat (first | apply Kd.S_alloc | apply Kd.S_drewN | apply Kd.S_drew)); exact HO404.out⟩, ⟨by repeat (first | (with_reducible first | exact HB.out | apply below_alloc | apply pw_below_drewN | apply below_drew1) | exact HB.out)⟩⟩
      case round =>
        clear H'
        try clear c2
        try clear c2b0
        try clear c2b1
        try clear p2
        try clear c3
        try clear c3b0
        try clear c3b1
        obtain ⟨x3_1, x4_1, rfl, HA, HK1, HO_3, HB⟩ := hrel
        cases gk with
        | zero => exact absurd HA.out (by simp [laws_toIntSS.l0])
        | succ k1 =>
          have H := HA.out
          clear HA
          simp only [laws_toIntSS.l0] at H
          by_cases c6 : x4_1 < (l0.length : Int)
          · rw [if_pos c6] at H
            have c6b0 : decide (x4_1 < (l0.length : Int)) = true := decide_eq_true c6
            clear c6
            by_cases c7 : 0 ≤ x4_1
            · rw [if_pos c7] at H
              have c7b0 : decide (0 ≤ x4_1) = true := decide_eq_true c7
              clear c7
              replace H := Option.bind_eq_some_iff.mp H
              obtain ⟨t406, A80, H⟩ := H
              replace H : (if x4_1 < (x3_1.length : Int) then (laws_toIntSS.l0 k1 l0 (x3_1.set (x4_1 : Int).toNat t406) (wrap64 (x4_1 + 1))) else (none)) = some r := H
              have A8 := Aside0.mk A80
              clear A80
              by_cases c9 : x4_1 < (x3_1.length : Int)
              · rw [if_pos c9] at H
                have c9b0 : decide (x4_1 < (x3_1.length : Int)) = true := decide_eq_true c9
                clear c9
                obtain ⟨y409, hy409⟩ : ∃ y_ : List (List Int), y_ = (x3_1.set (x4_1 : Int).toNat t406) := ⟨_, rfl⟩
                replace H : (laws_toIntSS.l0 k1 l0 y409 (wrap64 (x4_1 + 1))) = some r := by first | (rw [hy409]; with_reducible exact H) | (have H2_ := (Option.bind_some _ _).symm.trans H; rw [hy409]; with_reducible exact H2_) | (have H2_ := (Option.bind_some _ _).symm.trans H; with_reducible exact H2_) | with_reducible exact H | (rw [hy409]; exact H) | exact H
                have Ny409 := Aside0.mk hy409
                clear hy409
                have H' := Aside0.mk H
                clear H
                have p405 : 0 ≤ (x4_1 : Int) := of_decide_eq_true (by first | (with_reducible assumption) | assumption)
                have q405 : x4_1 < (l0.length : Int) := of_decide_eq_true (by first | (with_reducible assumption) | assumption)
                obtain ⟨ad405, A405_0, c405_0, e405, hx405_0, hl405_0, hi405_0⟩ := at_L2 HR0.out x4_1 p405 q405
                cases e405
                replace hx405_0 := (HB.out.cell (World.block_lt_of_cell? w _ hx405_0)).trans hx405_0
                have HR405_0 := Aside0.mk hi405_0
                have HC405_0 := Aside0.mk hl405_0
                clear hi405_0 hl405_0
                replace p405 := eq_true p405
                replace q405 := eq_true q405
                go_wp2_with (first | ((with_reducible refine gate_callee (f := 42) rfl ?_); refine goesL_ (some 20) rfl rfl Try.func42 (by kernel_rfl) rfl #[.slice A405_0 (rd_L2 l0 x4_1).length c405_0] rfl (by (try simp only [List.map_toArray, List.map_cons, List.map_nil]); first | done | rfl | (simp only [List.length_drop, List.length_take]; rfl)) ?_; (with_reducible refine (laws_toIntS.calls k1 _ _ (rd_L2 l0 x4_1) t406 _ ?side1 ?side2 A8.out).mono ?_); (case side1 => repeat (first | exact (Kd.C_below HR405_0.out HB.out) | (with_reducible refine Kd.C_alloc ?_ _) | (with_reducible refine Kd.C_drewN ?_ _) | (with_reducible refine Kd.C_drew ?_))); (case side2 => exact HC405_0.out); rintro e w11 ⟨v407, rfl, ho0, hb⟩; refine ⟨_, rfl, ?_⟩; have n0_ := Aside0.mk (Kd.S_elder' (by (with_reducible repeat (first | apply Kd.S_alloc | apply Kd.S_drewN | apply Kd.S_drew)); exact HO_3.out) (Kd.R_base ho0) hb); have n1_ := Aside0.mk (Kd.R_lower ho0 (below_size (by repeat (first | (with_reducible first | exact HB.out | apply below_alloc | apply pw_below_drewN | apply below_drew1) | exact HB.out)))); have n2_ := Aside0.mk (below_step (by repeat (first | (with_reducible first | exact HB.out | apply below_alloc | apply pw_below_drewN | apply below_drew1) | exact HB.out)) hb); clear HO_3; clear HB; have HO_3 := n0_; have HO408 := n1_; have HB := n2_; clear n0_ n1_ n2_; (try clear hb); (try clear hb2); (try clear hk); (try clear hi); (try clear ho0); have p10 : 0 ≤ (x4_1 : Int) := of_decide_eq_true (by first | (with_reducible assumption) | assumption); have q10 : (x4_1 : Int) < ((x3_1.length : Int) : Int) := of_decide_eq_true (by first | (with_reducible assumption) | assumption); obtain ⟨go10, co10, eo10, gb10, gl10, cl10, HG10⟩ := Kd.S_form HO_3.out (by omega); (first | cases eo10 | (injection eo10 with ea_ en_ ec_; (first | subst ea_ | (injection ea_ with ea_; subst ea_)); subst ec_; clear en_)); have GB10 := Aside0.mk gb10; have GG10 := Aside0.mk HG10; clear gb10 gl10 HG10; obtain ⟨_, ce10, hcl10, hM10, hcc10, hfr10, _, _⟩ := Kd.S_elem HO_3.out [] (x4_1 : Int) p10 q10; obtain ⟨ve10_0, rfl, ge10_0⟩ := hM10; have hx10_0 := hcc10 0 _ rfl; have hf10_0 := hfr10 0; (try simp only [show ((Kd.slice 3 (Kd.int .i64))).sz = 1 from rfl, Nat.mul_one, Nat.add_zero] at hx10_0); (try simp only [show ((Kd.slice 3 (Kd.int .i64))).sz = 1 from rfl, Nat.mul_one, Nat.add_zero] at hf10_0); (try clear hcl10); (try clear hcc10); (try clear hfr10); (try clear hM10); replace p10 := eq_true p10; replace q10 := eq_true q10; have n_ := Aside0.mk (Kd.S_mono (ok' := (fun k_ => some k_ ≠ (v407 : Value).ownBlock)) HO_3.out (fun k_ hk => hk.2)); clear HO_3; have HO_3 := n_; clear n_; have HX12 := Aside0.mk (show Kd.S (Kd.slice 3 (Kd.int .i64)) 24 w11 w.heap.size (fun k_ => ((fun _ => True)) k_ ∧ ¬ ((fun k_ => some k_ = (v407 : Value).ownBlock)) k_) (.slice (some ⟨go10, 0, none⟩) x3_1.length co10) x3_1 from (by (with_reducible repeat (first | apply Kd.S_alloc | apply Kd.S_drewN | apply Kd.S_drew)); exact Kd.S_mono HO_3.out (fun k_ hk => ⟨trivial, fun e_ => hk e_⟩))); obtain ⟨oki12, ce12, hcl12, hM12, hcc12, hfr12, hoki12, hH12⟩ := Kd.S_elem HX12.out [] (x4_1 : Int) (of_decide_eq_true (by first | (with_reducible assumption) | assumption)) (by have h_ : (x4_1 : Int) < ((x3_1.length : Int) : Int) := of_decide_eq_true (by first | (with_reducible assumption) | assumption); first | exact h_ | (have e_ := (Kd.S_reads' HO_3.out).1; omega) | simpa using h_); obtain ⟨ve12_0, rfl, ge12_0⟩ := hM12; have HP12 := Kd.S_seg hH12 (of_decide_eq_true (by first | (with_reducible assumption) | assumption)) (by have h_ : (x4_1 : Int) < ((x3_1.length : Int) : Int) := of_decide_eq_true (by first | (with_reducible assumption) | assumption); first | exact h_ | (have e_ := (Kd.S_reads' HO_3.out).1; omega) | simpa using h_) (seg := [v407]) (j := 0) (show 1 ≤ 1 from by decide) (x' := t406) (Kd.M_row (Kd.R_mono (Kd.R_tight rfl (Kd.R_mono (ok' := fun k_ => ((fun _ => True)) k_ ∧ k_ ≠ go10) (Kd.R_apart' (HO408.out) (Kd.S_typed HO_3.out) (by decide)) (fun k_ hk => ⟨trivial, fun e_ => (hk.2) (by rw [e_]; rfl)⟩))) (fun _ h_ => Or.inr (h_)))) (fun _ hk => hk) (fun k_ hk_ => ((Kd.R_mono (ok' := fun k_ => ((fun _ => True)) k_ ∧ k_ ≠ go10) (Kd.R_apart' (HO408.out) (Kd.S_typed HO_3.out) (by decide)) (fun k_ hk => ⟨trivial, fun e_ => (hk.2) (by rw [e_]; rfl)⟩))).1 k_ hk_.symm); have hx12_0 := hcc12 0 _ rfl; (try simp only [show ((Kd.slice 3 (Kd.int .i64))).sz = 1 from rfl, Nat.mul_one, Nat.add_zero] at hx12_0); have hf12_0 := hfr12 0; (try simp only [show ((Kd.slice 3 (Kd.int .i64))).sz = 1 from rfl, Nat.mul_one, Nat.add_zero] at hf12_0); (try clear hcl12); (try clear hcc12); (try clear hfr12); (try clear hM12); (try clear hoki12); (try clear hH12); (try simp only [show ((Kd.slice 3 (Kd.int .i64))).sz = 1 from rfl, Nat.mul_one, Nat.add_zero] at HP12)) | ((with_reducible refine gate_store (t := 24) (p := 21) rfl ?_); refine store_event (t := 24) (p := 21) (v := ?vo_w13) (w1 := (w11.setCell ⟨go10, (x4_1 : Int).toNat, none⟩ (v407))) ?hg ?ho ?hn ?hr ?_; (case ho => rfl); (case hg => rfl); (case hn => rfl); (case hr => obtain ⟨A_, c_, e_, _, _⟩ := Kd.R_reads HO408.out; rw [e_]; (first | (go_simp; done) | (go_simp; rfl))); intro w13 hw; have hg : w11.grownBy w13 (some go10) := (by rw [hw]; exact HP12.2); have hp_ : Kd.S (Kd.slice 3 (Kd.int .i64)) 24 w13 w.heap.size (fun _ => True) (.slice (some ⟨go10, 0, none⟩) x3_1.length co10) y409 := (by rw [hw, Ny409.out]; exact HP12.1); clear HP12; have n0_ := Aside0.mk (hp_); have n1_ := Aside0.mk ((by rw [hw]; exact below_set (HB.out) GB10.out : Below w.heap.size w w13)); clear HO_3; clear HB; clear HO408; have HO_3 := n0_; have HB := n1_; clear n0_ n1_; clear hg hw hp_))
                go_roundg k1
                case measure => have := HK1.out; omega
                case rel => exact ⟨(y409), (wrap64 (x4_1 + 1)), (by first | rfl | (simp; done) | (simp [*]; done)), H', ⟨by have := HK1.out; omega⟩, ⟨by (with_reducible repeat (first | apply Kd.S_alloc | apply Kd.S_drewN | apply Kd.S_drew)); exact HO_3.out⟩, ⟨by repeat (first | (with_reducible first | exact HB.out | apply below_alloc | apply pw_below_drewN | apply below_drew1) | exact HB.out)⟩⟩
              · rw [if_neg c9] at H
                exact absurd H (by simp)
            · rw [if_neg c7] at H
              exact absurd H (by simp)
          · rw [if_neg c6] at H
            have c6b0 : decide (x4_1 < (l0.length : Int)) = false := decide_eq_false c6
            clear c6
            obtain rfl := Option.some.inj H
            go_wp2
            go_ret
            exact ⟨_, by first | rfl | (simp [errW_none, errW_some] <;> rfl) | (simp [*, errW_none, errW_some] <;> rfl), by (with_reducible repeat (first | apply Kd.S_alloc | apply Kd.S_drewN | apply Kd.S_drew)); exact HO_3.out, by repeat (first | (with_reducible first | exact HB.out | apply below_alloc | apply pw_below_drewN | apply below_drew1) | exact HB.out)⟩
    · rw [if_neg c3] at H
      exact absurd H (by simp)
  · rw [if_neg c2] at H
    exact absurd H (by simp)

end Go.Proofs.Ytllnieknogficaa.K
namespace Go.Proofs.Ytllnieknogficaa.K
open Go.RowKit Go.Proofs.YtllnieknogficaaW.PrintWords Go.Proofs.YtllnieknogficaaW.PrintLast Go.Proofs.YtllnieknogficaaW.PrintMore
attribute [local go_sem] max2_int min2_int max_two min_two max_three min_three max_four min_four   -- for this text's walks alone
set_option linter.unusedVariables false
set_option linter.unusedSimpArgs false

/-! ### laws_szIntS: function 124 -/
def laws_szIntS.f (l0 : List Int) (a1 : Int) : Option (Int) := if (wrap64 (a1 - (l0.length : Int))) < 0 then (some (-1)) else (some (wrap64 (a1 - (l0.length : Int))))
set_option maxHeartbeats 8000000 in
set_option maxRecDepth 100000 in
theorem laws_szIntS.calls (A0 : Option Addr) (c0 : Nat) (l0 : List Int) (a1 : Int) (r : Int) (w : World) (hr0 : Kd.C (Kd.int .i64) w A0 l0.length l0) (hc0 : l0.length ≤ c0) (h : laws_szIntS.f l0 a1 = some r) :
    Calls Try.prog 124 #[.slice A0 l0.length c0, .int .i64 a1] w fun e w' => e = .returned (.int .i64 r) ∧ Drawn0 w w' := by
  have HR0 := Aside0.mk hr0
  have HC0 := Aside0.mk hc0
  clear hr0 hc0
  have H : (if (wrap64 (a1 - (l0.length : Int))) < 0 then (some (-1)) else (some (wrap64 (a1 - (l0.length : Int))))) = some r := h
  clear h
  by_cases c3 : (wrap64 (a1 - (l0.length : Int))) < 0
  · rw [if_pos c3] at H
    have c3b0 : decide ((wrap64 (a1 - (l0.length : Int))) < 0) = true := decide_eq_true c3
    clear c3
    obtain rfl := Option.some.inj H
    go_enter Try.func124, Try.ntmps124
    go_wp2
    go_ret
    exact ⟨by first | rfl | (simp; done) | (simp [*]; done), by repeat (first | exact Drawn0.refl _ | apply Drawn0.step)⟩
  · rw [if_neg c3] at H
    have c3b0 : decide ((wrap64 (a1 - (l0.length : Int))) < 0) = false := decide_eq_false c3
    clear c3
    obtain rfl := Option.some.inj H
    go_enter Try.func124, Try.ntmps124
    go_wp2
    go_ret
    exact ⟨by first | rfl | (simp; done) | (simp [*]; done), by repeat (first | exact Drawn0.refl _ | apply Drawn0.step)⟩

end Go.Proofs.Ytllnieknogficaa.K
namespace Go.Proofs.Ytllnieknogficaa.K
open Go.RowKit Go.Proofs.YtllnieknogficaaW.PrintWords Go.Proofs.YtllnieknogficaaW.PrintLast Go.Proofs.YtllnieknogficaaW.PrintMore
attribute [local go_sem] max2_int min2_int max_two min_two max_three min_three max_four min_four   -- for this text's walks alone
set_option linter.unusedVariables false
set_option linter.unusedSimpArgs false

/-! ### laws_szIntSS: function 34 -/
def laws_szIntSS.l0 : Nat → List (List Int) → Int → Int → Option (Int)
  | 0, _, _, _ => none
  | k + 1, x0, x1, x5 => if x5 < (x0.length : Int) then (if 0 ≤ x5 then ((laws_szIntS.f (rd_L2 x0 x5) x1).bind fun t381 => (if t381 < 0 then (some (-1)) else (laws_szIntSS.l0 k x0 t381 (wrap64 (x5 + 1))))) else (none)) else (some x1)
def laws_szIntSS.f (k : Nat) (l0 : List (List Int)) (a1 : Int) : Option (Int) := if (wrap64 (a1 - (l0.length : Int))) < 0 then (some (-1)) else (laws_szIntSS.l0 k l0 (wrap64 (a1 - (l0.length : Int))) 0)
theorem laws_szIntSS.mono_l : ∀ k, (∀ y0 y1 y2, LeO (laws_szIntSS.l0 k y0 y1 y2) (laws_szIntSS.l0 (k + 1) y0 y1 y2))
  | 0 => fun _ _ _ r h => by simp [laws_szIntSS.l0] at h
  | k + 1 => by
    have ih0 := laws_szIntSS.mono_l k
    · intro y0 y1 y2
      unfold laws_szIntSS.l0
      repeat' first
      | (with_reducible exact ih0 _ _ _)
      | (with_reducible exact LeO.refl _)
      | (with_reducible exact LeO.none _)
      | (with_reducible refine LeO.ite ?_ ?_)
      | (with_reducible refine LeO.bind ?_ (fun _ => ?_))
      | exact ih0 _ _ _
      | exact LeO.none _
      | refine LeO.ite ?_ ?_
      | refine LeO.bind ?_ (fun _ => ?_)
theorem laws_szIntSS.mono : ∀ a0 a1 k, LeO (laws_szIntSS.f k a0 a1) (laws_szIntSS.f (k + 1) a0 a1) := by
  intro a0 a1 k
  have ih0 := laws_szIntSS.mono_l k
  unfold laws_szIntSS.f
  repeat' first
      | (with_reducible exact ih0 _ _ _)
      | (with_reducible exact LeO.refl _)
      | (with_reducible exact LeO.none _)
      | (with_reducible refine LeO.ite ?_ ?_)
      | (with_reducible refine LeO.bind ?_ (fun _ => ?_))
      | exact ih0 _ _ _
      | exact LeO.none _
      | refine LeO.ite ?_ ?_
      | refine LeO.bind ?_ (fun _ => ?_)
set_option maxHeartbeats 8000000 in
set_option maxRecDepth 100000 in
theorem laws_szIntSS.calls (k : Nat) (A0 : Option Addr) (c0 : Nat) (l0 : List (List Int)) (a1 : Int) (r : Int) (w : World) (hr0 : Kd.C (Kd.slice 3 (Kd.int .i64)) w A0 l0.length l0) (hc0 : l0.length ≤ c0) (h : laws_szIntSS.f k l0 a1 = some r) :
    Calls Try.prog 34 #[.slice A0 l0.length c0, .int .i64 a1] w fun e w' => e = .returned (.int .i64 r) ∧ Drawn0 w w' := by
  have HR0 := Aside0.mk hr0
  have HC0 := Aside0.mk hc0
  clear hr0 hc0
  have H : (if (wrap64 (a1 - (l0.length : Int))) < 0 then (some (-1)) else (laws_szIntSS.l0 k l0 (wrap64 (a1 - (l0.length : Int))) 0)) = some r := h
  clear h
  by_cases c3 : (wrap64 (a1 - (l0.length : Int))) < 0
  · rw [if_pos c3] at H
    have c3b0 : decide ((wrap64 (a1 - (l0.length : Int))) < 0) = true := decide_eq_true c3
    clear c3
    obtain rfl := Option.some.inj H
    go_enter Try.func34, Try.ntmps34
    go_wp2
    go_ret
    exact ⟨by first | rfl | (simp; done) | (simp [*]; done), by repeat (first | exact Drawn0.refl _ | apply Drawn0.step)⟩
  · rw [if_neg c3] at H
    have c3b0 : decide ((wrap64 (a1 - (l0.length : Int))) < 0) = false := decide_eq_false c3
    clear c3
    have H' := Aside0.mk H
    clear H
    go_enter Try.func34, Try.ntmps34
    go_wp2
    go_loopg [1, 5] k (fun kq v1 v5 w' => ∃ (x1_1 : Int) (x5_1 : Int), v1 = .int .i64 x1_1 ∧ v5 = .int .i64 x5_1 ∧ Aside0 (laws_szIntSS.l0 kq l0 x1_1 x5_1 = some r) ∧ Aside0 (kq ≤ k) ∧ Drawn0 w w')
    case atStart => exact ⟨(wrap64 (a1 - (l0.length : Int))), (0), (by first | rfl | (simp; done) | (simp [*]; done)), (by first | rfl | (simp; done) | (simp [*]; done)), H', ⟨Nat.le_refl _⟩, by repeat (first | exact Drawn0.refl _ | apply Drawn0.step)⟩
    case round =>
      clear H'
      try clear p2
      try clear c3
      try clear c3b0
      obtain ⟨x1_1, x5_1, rfl, rfl, HA, HK1, ⟨m1, rfl⟩⟩ := hrel
      cases gk with
      | zero => exact absurd HA.out (by simp [laws_szIntSS.l0])
      | succ k1 =>
        have H := HA.out
        clear HA
        simp only [laws_szIntSS.l0] at H
        by_cases c4 : x5_1 < (l0.length : Int)
        · rw [if_pos c4] at H
          have c4b0 : decide (x5_1 < (l0.length : Int)) = true := decide_eq_true c4
          clear c4
          by_cases c5 : 0 ≤ x5_1
          · rw [if_pos c5] at H
            have c5b0 : decide (0 ≤ x5_1) = true := decide_eq_true c5
            clear c5
            replace H := Option.bind_eq_some_iff.mp H
            obtain ⟨t381, A60, H⟩ := H
            replace H : (if t381 < 0 then (some (-1)) else (laws_szIntSS.l0 k1 l0 t381 (wrap64 (x5_1 + 1)))) = some r := H
            have A6 := Aside0.mk A60
            clear A60
            by_cases c7 : t381 < 0
            · rw [if_pos c7] at H
              have c7b0 : decide (t381 < 0) = true := decide_eq_true c7
              clear c7
              obtain rfl := Option.some.inj H
              have p380 : 0 ≤ (x5_1 : Int) := of_decide_eq_true (by first | (with_reducible assumption) | assumption)
              have q380 : x5_1 < (l0.length : Int) := of_decide_eq_true (by first | (with_reducible assumption) | assumption)
              obtain ⟨ad380, A380_0, c380_0, e380, hx380_0, hl380_0, hi380_0⟩ := at_L2 HR0.out x5_1 p380 q380
              cases e380
              have HR380_0 := Aside0.mk hi380_0
              have HC380_0 := Aside0.mk hl380_0
              clear hi380_0 hl380_0
              replace p380 := eq_true p380
              replace q380 := eq_true q380
              go_wp2_with (first | ((with_reducible refine gate_callee (f := 124) rfl ?_); refine goesL_ (some 23) rfl rfl Try.func124 (by kernel_rfl) rfl #[.slice A380_0 (rd_L2 l0 x5_1).length c380_0, .int .i64 x1_1] rfl (by (try simp only [List.map_toArray, List.map_cons, List.map_nil]); first | done | rfl | (simp only [List.length_drop, List.length_take]; rfl)) ?_; (with_reducible refine (laws_szIntS.calls _ _ (rd_L2 l0 x5_1) x1_1 t381 _ ?side1 ?side2 A6.out).mono ?_); (case side1 => repeat (first | exact HR380_0.out | (with_reducible refine Kd.C_alloc ?_ _) | (with_reducible refine Kd.C_drewN ?_ _) | (with_reducible refine Kd.C_drew ?_))); (case side2 => exact HC380_0.out); rintro e w' ⟨rfl, ⟨nd, rfl⟩⟩; refine ⟨_, rfl, ?_⟩))
              go_ret
              exact ⟨by first | rfl | (simp; done) | (simp [*]; done), by repeat (first | exact Drawn0.refl _ | apply Drawn0.step)⟩
            · rw [if_neg c7] at H
              have c7b0 : decide (t381 < 0) = false := decide_eq_false c7
              clear c7
              have H' := Aside0.mk H
              clear H
              have p380 : 0 ≤ (x5_1 : Int) := of_decide_eq_true (by first | (with_reducible assumption) | assumption)
              have q380 : x5_1 < (l0.length : Int) := of_decide_eq_true (by first | (with_reducible assumption) | assumption)
              obtain ⟨ad380, A380_0, c380_0, e380, hx380_0, hl380_0, hi380_0⟩ := at_L2 HR0.out x5_1 p380 q380
              cases e380
              have HR380_0 := Aside0.mk hi380_0
              have HC380_0 := Aside0.mk hl380_0
              clear hi380_0 hl380_0
              replace p380 := eq_true p380
              replace q380 := eq_true q380
              go_wp2_with (first | ((with_reducible refine gate_callee (f := 124) rfl ?_); refine goesL_ (some 23) rfl rfl Try.func124 (by kernel_rfl) rfl #[.slice A380_0 (rd_L2 l0 x5_1).length c380_0, .int .i64 x1_1] rfl (by (try simp only [List.map_toArray, List.map_cons, List.map_nil]); first | done | rfl | (simp only [List.length_drop, List.length_take]; rfl)) ?_; (with_reducible refine (laws_szIntS.calls _ _ (rd_L2 l0 x5_1) x1_1 t381 _ ?side1 ?side2 A6.out).mono ?_); (case side1 => repeat (first | exact HR380_0.out | (with_reducible refine Kd.C_alloc ?_ _) | (with_reducible refine Kd.C_drewN ?_ _) | (with_reducible refine Kd.C_drew ?_))); (case side2 => exact HC380_0.out); rintro e w' ⟨rfl, ⟨nd, rfl⟩⟩; refine ⟨_, rfl, ?_⟩))
              go_roundg k1
              case measure => have := HK1.out; omega
              case rel => exact ⟨(t381), (wrap64 (x5_1 + 1)), (by first | rfl | (simp; done) | (simp [*]; done)), (by first | rfl | (simp; done) | (simp [*]; done)), H', ⟨by have := HK1.out; omega⟩, by repeat (first | exact Drawn0.refl _ | apply Drawn0.step)⟩
          · rw [if_neg c5] at H
            exact absurd H (by simp)
        · rw [if_neg c4] at H
          have c4b0 : decide (x5_1 < (l0.length : Int)) = false := decide_eq_false c4
          clear c4
          obtain rfl := Option.some.inj H
          go_wp2
          go_ret
          exact ⟨by first | rfl | (simp; done) | (simp [*]; done), by repeat (first | exact Drawn0.refl _ | apply Drawn0.step)⟩

end Go.Proofs.Ytllnieknogficaa.K
namespace Go.Proofs.Ytllnieknogficaa.K
open Go.RowKit Go.Proofs.YtllnieknogficaaW.PrintWords Go.Proofs.YtllnieknogficaaW.PrintLast Go.Proofs.YtllnieknogficaaW.PrintMore
attribute [local go_sem] max2_int min2_int max_two min_two max_three min_three max_four min_four   -- for this text's walks alone
set_option linter.unusedVariables false
set_option linter.unusedSimpArgs false
/-! ### copies -/
theorem toIntS_l0 (l : List Int) (hl : l.length ≤ 4611686018427387904) : ∀ d (i : Nat) (x : List Int), i ≤ l.length → l.length - i = d → x.length = l.length → x.take i = l.take i → Ev (fun k => laws_toIntS.l0 k l x (i : Int)) l := by
  intro d
  induction d with
  | zero =>
    intro i x hi hd hx ht
    have : i = l.length := by omega
    subst this
    refine ev_succ ?_
    simp only [laws_toIntS.l0, if_neg (Int.lt_irrefl _)]
    refine ev_now _ _ ?_
    rw [List.take_of_length_le (by omega), List.take_length] at ht
    exact ht
  | succ d ih =>
    intro i x hi hd hx ht
    have hlt : i < l.length := by omega
    have h1 : (i : Int) < (l.length : Int) := by omega
    have h2 : (0 : Int) ≤ (i : Int) := by omega
    have h3 : (i : Int) < (x.length : Int) := by omega
    refine ev_succ ?_
    simp only [laws_toIntS.l0, if_pos h1, if_pos h2, if_pos h3, wrap64_nat_succ (show i < 9223372036854775807 by omega), Int.toNat_natCast, rd_nat l i hlt]
    refine ih (i + 1) _ (by omega) (by omega) (by simpa using hx) ?_
    rw [List.take_succ_eq_append_getElem (by simpa [hx] using hlt), List.take_succ_eq_append_getElem hlt, List.take_set_of_le (Nat.le_refl _), ht, List.getElem_set_self]
theorem toIntS_ev (l : List Int) (hl : l.length ≤ 1099511627776) : Ev (fun k => laws_toIntS.f k l) l := by
  unfold laws_toIntS.f
  have h1 : (0 : Int) ≤ (l.length : Int) := by omega
  have h2 : l.length ≤ 35184372088832 := by omega
  simp only [if_pos h1, if_pos h2, Int.toNat_natCast]
  exact toIntS_l0 l (by omega) l.length 0 (List.replicate l.length 0) (by omega) (by omega) (by simp) (by simp)
theorem toIntSS_l0 (l : List (List Int)) (hl : l.length ≤ 4611686018427387904) (hr : ∀ r ∈ l, r.length ≤ 1099511627776) : ∀ d (i : Nat) (x : List (List Int)), i ≤ l.length → l.length - i = d → x.length = l.length → x.take i = l.take i → Ev (fun k => laws_toIntSS.l0 k l x (i : Int)) l := by
  intro d
  induction d with
  | zero =>
    intro i x hi hd hx ht
    have : i = l.length := by omega
    subst this
    refine ev_succ ?_
    simp only [laws_toIntSS.l0, if_neg (Int.lt_irrefl _)]
    refine ev_now _ _ ?_
    rw [List.take_of_length_le (by omega), List.take_length] at ht
    exact ht
  | succ d ih =>
    intro i x hi hd hx ht
    have hlt : i < l.length := by omega
    have h1 : (i : Int) < (l.length : Int) := by omega
    have h2 : (0 : Int) ≤ (i : Int) := by omega
    have h3 : (i : Int) < (x.length : Int) := by omega
    refine ev_succ ?_
    simp only [laws_toIntSS.l0, if_pos h1, if_pos h2, if_pos h3, wrap64_nat_succ (show i < 9223372036854775807 by omega), Int.toNat_natCast, rdL_nat l i hlt]
    refine Ev.bind (toIntS_ev l[i] (hr _ (List.getElem_mem hlt))) ?_
    refine ih (i + 1) _ (by omega) (by omega) (by simpa using hx) ?_
    rw [List.take_succ_eq_append_getElem (by simpa [hx] using hlt), List.take_succ_eq_append_getElem hlt, List.take_set_of_le (Nat.le_refl _), ht, List.getElem_set_self]
theorem toIntSS_ev (l : List (List Int)) (hl : l.length ≤ 1099511627776) (hr : ∀ r ∈ l, r.length ≤ 1099511627776) : Ev (fun k => laws_toIntSS.f k l) l := by
  unfold laws_toIntSS.f
  have h1 : (0 : Int) ≤ (l.length : Int) := by omega
  have h2 : l.length ≤ 11728124029610 := by omega
  simp only [if_pos h1, if_pos h2, Int.toNat_natCast]
  exact toIntSS_l0 l (by omega) hr l.length 0 (List.replicate l.length []) (by omega) (by omega) (by simp) (by simp)
/-! ### equality -/
theorem eqIntS_l0 (l : List Int) (hl : l.length ≤ 4611686018427387904) : ∀ d (i : Nat), i ≤ l.length → l.length - i = d → Ev (fun k => laws_eqIntS.l0 k l l (i : Int)) true := by
  intro d
  induction d with
  | zero =>
    intro i hi hd
    have : i = l.length := by omega
    subst this
    refine ev_succ ?_
    simp only [laws_eqIntS.l0, if_neg (Int.lt_irrefl _)]
    exact ev_now _ _ rfl
  | succ d ih =>
    intro i hi hd
    have h1 : (i : Int) < (l.length : Int) := by omega
    have h2 : (0 : Int) ≤ (i : Int) := by omega
    refine ev_succ ?_
    simp only [laws_eqIntS.l0, if_pos h1, if_pos h2, if_true, wrap64_nat_succ (show i < 9223372036854775807 by omega)]
    exact ih (i + 1) (by omega) (by omega)
theorem eqIntS_ev (l : List Int) (hl : l.length ≤ 1099511627776) : Ev (fun k => laws_eqIntS.f k l l) true := by
  unfold laws_eqIntS.f
  simp only [if_true]
  exact eqIntS_l0 l (by omega) l.length 0 (by omega) (by omega)
theorem eqIntSS_l0 (l : List (List Int)) (hl : l.length ≤ 4611686018427387904) (hr : ∀ r ∈ l, r.length ≤ 1099511627776) : ∀ d (i : Nat), i ≤ l.length → l.length - i = d → Ev (fun k => laws_eqIntSS.l0 k l l (i : Int)) true := by
  intro d
  induction d with
  | zero =>
    intro i hi hd
    have : i = l.length := by omega
    subst this
    refine ev_succ ?_
    simp only [laws_eqIntSS.l0, if_neg (Int.lt_irrefl _)]
    exact ev_now _ _ rfl
  | succ d ih =>
    intro i hi hd
    have hlt : i < l.length := by omega
    have h1 : (i : Int) < (l.length : Int) := by omega
    have h2 : (0 : Int) ≤ (i : Int) := by omega
    refine ev_succ ?_
    simp only [laws_eqIntSS.l0, if_pos h1, if_pos h2, rdL_nat l i hlt, wrap64_nat_succ (show i < 9223372036854775807 by omega)]
    refine Ev.bind (eqIntS_ev l[i] (hr _ (List.getElem_mem hlt))) ?_
    simp only [if_true]
    exact ih (i + 1) (by omega) (by omega)
theorem eqIntSS_ev (l : List (List Int)) (hl : l.length ≤ 1099511627776) (hr : ∀ r ∈ l, r.length ≤ 1099511627776) : Ev (fun k => laws_eqIntSS.f k l l) true := by
  unfold laws_eqIntSS.f
  simp only [if_true]
  exact eqIntSS_l0 l (by omega) hr l.length 0 (by omega) (by omega)
/-! ### marks that are held -/
theorem heldIntS_l0 (a : Int) (n : Nat) (h0 : 0 ≤ a) (hl : a + (n : Int) ≤ 4611686018427387904) : ∀ d (i : Nat), i ≤ n → n - i = d → Ev (fun k => laws_heldIntS.l0 k (laws_markIntSS.row a n) (a + (i : Int)) (i : Int)) (a + (n : Int)) := by
  intro d
  induction d with
  | zero =>
    intro i hi hd
    have : i = n := by omega
    subst this
    refine ev_succ ?_
    simp only [laws_heldIntS.l0, laws_markIntSS.row_length, if_neg (Int.lt_irrefl _)]
    exact ev_now _ _ rfl
  | succ d ih =>
    intro i hi hd
    have h1 : (i : Int) < ((laws_markIntSS.row a n).length : Int) := by rw [laws_markIntSS.row_length]; omega
    have h2 : (0 : Int) ≤ (i : Int) := by omega
    have h3 : rd (laws_markIntSS.row a n) (i : Int) = a + (i : Int) := by rw [rd_nat _ i (by rw [laws_markIntSS.row_length]; omega)]; simp [laws_markIntSS.row]
    have h4 : wrap64 (a + (i : Int) + 1) = a + ((i + 1 : Nat) : Int) := by unfold wrap64; omega
    refine ev_succ ?_
    simp only [laws_heldIntS.l0, if_pos h1, if_pos h2, if_pos h3, h4, wrap64_nat_succ (show i < 9223372036854775807 by omega)]
    exact ih (i + 1) (by omega) (by omega)
theorem heldIntS_ev (a : Int) (n : Nat) (h0 : 0 ≤ a) (hl : a + (n : Int) ≤ 4611686018427387904) : Ev (fun k => laws_heldIntS.f k (laws_markIntSS.row a n) a) (a + (n : Int)) := by
  unfold laws_heldIntS.f
  have := heldIntS_l0 a n h0 hl n 0 (by omega) (by omega)
  simpa using this
theorem rows_at (a : Int) (l : List (List Int)) (i : Nat) (h : i < l.length) : (laws_markIntSS.rows a l)[i]'(by rw [laws_markIntSS.rows_length]; exact h) = laws_markIntSS.row (a + (laws_markIntSS.tot (l.take i) : Int)) l[i].length := by
  induction l generalizing a i with
  | nil => simp at h
  | cons r t ih =>
    cases i with
    | zero => simp [laws_markIntSS.rows, laws_markIntSS.tot]
    | succ i =>
      have h' : i < t.length := by simpa using h
      have := ih (a + (r.length : Int)) i h'
      simp only [laws_markIntSS.rows, List.getElem_cons_succ, List.take_succ_cons, laws_markIntSS.tot]
      rw [this]
      congr 1
      push_cast
      omega
theorem heldIntSS_l0 (a : Int) (l : List (List Int)) (h0 : 0 ≤ a) (hl : a + (laws_markIntSS.tot l : Int) ≤ 4611686018427387904) (hn : l.length ≤ 4611686018427387904) : ∀ d (i : Nat), i ≤ l.length → l.length - i = d →
    Ev (fun k => laws_heldIntSS.l0 k (laws_markIntSS.rows a l) (a + (laws_markIntSS.tot (l.take i) : Int)) (i : Int)) (a + (laws_markIntSS.tot l : Int)) := by
  intro d
  induction d with
  | zero =>
    intro i hi hd
    have : i = l.length := by omega
    subst this
    refine ev_succ ?_
    simp only [laws_heldIntSS.l0, laws_markIntSS.rows_length, if_neg (Int.lt_irrefl _), List.take_length]
    exact ev_now _ _ rfl
  | succ d ih =>
    intro i hi hd
    have hlt : i < l.length := by omega
    have h1 : (i : Int) < ((laws_markIntSS.rows a l).length : Int) := by rw [laws_markIntSS.rows_length]; omega
    have h2 : (0 : Int) ≤ (i : Int) := by omega
    have ht := laws_markIntSS.tot_take l i hlt
    have hle := laws_markIntSS.tot_le l (i + 1)
    have h3 : rd_L2 (laws_markIntSS.rows a l) (i : Int) = laws_markIntSS.row (a + (laws_markIntSS.tot (l.take i) : Int)) l[i].length := by rw [rdL_nat _ i (by rw [laws_markIntSS.rows_length]; exact hlt), rows_at a l i hlt]
    refine ev_succ ?_
    simp only [laws_heldIntSS.l0, if_pos h1, if_pos h2, h3, wrap64_nat_succ (show i < 9223372036854775807 by omega)]
    refine Ev.bind (heldIntS_ev _ _ (by omega) (by omega)) ?_
    have h5 : ¬ (a + (laws_markIntSS.tot (l.take i) : Int) + (l[i].length : Int) < 0) := by omega
    have h6 : a + (laws_markIntSS.tot (l.take i) : Int) + (l[i].length : Int) = a + (laws_markIntSS.tot (l.take (i + 1)) : Int) := by rw [ht]; push_cast; omega
    simp only [if_neg h5]
    rw [h6]
    exact ih (i + 1) (by omega) (by omega)
theorem heldIntSS_ev (a : Int) (l : List (List Int)) (h0 : 0 ≤ a) (hl : a + (laws_markIntSS.tot l : Int) ≤ 4611686018427387904) (hn : l.length ≤ 4611686018427387904) : Ev (fun k => laws_heldIntSS.f k (laws_markIntSS.rows a l) a) (a + (laws_markIntSS.tot l : Int)) := by
  unfold laws_heldIntSS.f
  have := heldIntSS_l0 a l h0 hl hn l.length 0 (by omega) (by omega)
  simpa [laws_markIntSS.tot] using this
/-! ### sizes -/
theorem szIntS_eq (l : List Int) (a : Int) (ha : -1 ≤ a) (ha2 : a ≤ 1048576) (hl : l.length ≤ 9223372036854775807) : laws_szIntS.f l a = some (if a - (l.length : Int) < 0 then -1 else a - (l.length : Int)) := by
  unfold laws_szIntS.f
  rw [wrap64_id (by omega) (by omega)]
  split <;> rfl
/-- It comes to something; if that is not negative, there is little. -/
theorem szIntSS_l0 (l : List (List Int)) (hl : l.length ≤ 9223372036854775807) (hr : ∀ r ∈ l, r.length ≤ 9223372036854775807) : ∀ d (i : Nat) (a : Int), i ≤ l.length → l.length - i = d → 0 ≤ a → a ≤ 1048576 →
    ∃ r, Ev (fun k => laws_szIntSS.l0 k l a (i : Int)) r ∧ (0 ≤ r → (laws_markIntSS.tot (l.drop i) : Int) ≤ a) ∧ (¬ 0 ≤ r → r = -1) := by
  intro d
  induction d with
  | zero =>
    intro i a hi hd h0 ha
    have : i = l.length := by omega
    subst this
    refine ⟨a, ev_succ ?_, fun _ => ?_, fun h => absurd h0 h⟩
    · simp only [laws_szIntSS.l0, if_neg (Int.lt_irrefl _)]
      exact ev_now _ _ rfl
    · rw [List.drop_length]; simpa [laws_markIntSS.tot] using h0
  | succ d ih =>
    intro i a hi hd h0 ha
    have hlt : i < l.length := by omega
    have h1 : (i : Int) < (l.length : Int) := by omega
    have h2 : (0 : Int) ≤ (i : Int) := by omega
    have hs := szIntS_eq l[i] a (by omega) ha (hr _ (List.getElem_mem hlt))
    by_cases hc : a - (l[i].length : Int) < 0
    · refine ⟨-1, ev_succ ?_, fun h => by omega, fun _ => rfl⟩
      simp only [laws_szIntSS.l0, if_pos h1, if_pos h2, rdL_nat l i hlt, hs, if_pos hc, Option.bind_some, if_pos (show (-1 : Int) < 0 by omega)]
      exact ev_now _ _ rfl
    · obtain ⟨r, hE, hp, hq⟩ := ih (i + 1) (a - (l[i].length : Int)) (by omega) (by omega) (by omega) (by omega)
      refine ⟨r, ev_succ ?_, fun h => ?_, hq⟩
      · simp only [laws_szIntSS.l0, if_pos h1, if_pos h2, rdL_nat l i hlt, hs, if_neg hc, Option.bind_some, wrap64_nat_succ (show i < 9223372036854775807 by omega)]
        exact hE
      · rw [List.drop_eq_getElem_cons hlt]
        have := hp h
        simp only [laws_markIntSS.tot]
        push_cast
        omega
theorem szIntSS_ev (l : List (List Int)) (a : Int) (h0 : 0 ≤ a) (ha : a ≤ 1048576) (hl : l.length ≤ 9223372036854775807) (hr : ∀ r ∈ l, r.length ≤ 9223372036854775807) :
    ∃ r, Ev (fun k => laws_szIntSS.f k l a) r ∧ (0 ≤ r → (laws_markIntSS.tot l : Int) + (l.length : Int) ≤ a) ∧ (¬ 0 ≤ r → r = -1) := by
  unfold laws_szIntSS.f
  rw [wrap64_id (by omega) (by omega)]
  by_cases hc : a - (l.length : Int) < 0
  · exact ⟨-1, by simp only [if_pos hc]; exact ev_now _ _ rfl, fun h => by omega, fun _ => rfl⟩
  · obtain ⟨r, hE, hp, hq⟩ := szIntSS_l0 l hl hr l.length 0 (a - (l.length : Int)) (by omega) (by omega) (by omega) (by omega)
    refine ⟨r, ?_, fun h => ?_, hq⟩
    · simp only [if_neg hc]; exact hE
    · have := hp h
      rw [List.drop_zero] at this
      omega
theorem row_le_tot (l : List (List Int)) (r : List Int) (h : r ∈ l) : r.length ≤ laws_markIntSS.tot l := by
  induction l with
  | nil => simp at h
  | cons x t ih =>
    rcases List.mem_cons.1 h with h | h
    · subst h; simp [laws_markIntSS.tot]
    · have := ih h; simp [laws_markIntSS.tot]; omega
/-- heldIntSS over what was marked, its length as the walk has it. -/
theorem held_at (k : Nat) (A : Option Addr) (c : Nat) (R : List (List Int)) (q : Int) (w : World) (h : laws_heldIntSS.f k (laws_markIntSS.rows 1 R) 1 = some q) (hc : R.length ≤ c) (hr : Kd.C (Kd.slice 3 (Kd.int .i64)) w A (laws_markIntSS.rows 1 R).length (laws_markIntSS.rows 1 R)) :
    Calls Try.prog 40 #[.slice A R.length c, .int .i64 1] w fun e w' => e = .returned (.int .i64 q) ∧ Drawn0 w w' := by
  have := laws_heldIntSS.calls k A c (laws_markIntSS.rows 1 R) 1 q w hr (by rw [laws_markIntSS.rows_length]; exact hc) h
  rwa [laws_markIntSS.rows_length] at this
end Go.Proofs.Ytllnieknogficaa.K
namespace Go.Proofs.Ytllnieknogficaa.K
open Go.RowKit Go.Proofs.YtllnieknogficaaW.PrintWords Go.Proofs.YtllnieknogficaaW.PrintLast Go.Proofs.YtllnieknogficaaW.PrintMore
attribute [local go_sem] max2_int min2_int max_two min_two max_three min_three max_four min_four   -- for this text's walks alone
set_option linter.unusedVariables false
set_option linter.unusedSimpArgs false
theorem Ev_unique {α : Type} {g : Nat → Option α} {r r' : α} (h : Ev g r) (h' : Ev g r') : r = r' := by
  obtain ⟨K, hK⟩ := h
  obtain ⟨K', hK'⟩ := h'
  have a := hK (K + K') (by omega)
  have b := hK' (K + K') (by omega)
  rw [a] at b
  injection b
theorem szIntSS_ub0 (l : List (List Int)) (hl : l.length ≤ 9223372036854775807) (hr : ∀ r ∈ l, r.length ≤ 9223372036854775807) : ∀ d (i : Nat) (a : Int), i ≤ l.length → l.length - i = d → 0 ≤ a → a ≤ 1048576 →
    ∃ r, Ev (fun k => laws_szIntSS.l0 k l a (i : Int)) r ∧ r ≤ a := by
  intro d
  induction d with
  | zero =>
    intro i a hi hd h0 ha
    have : i = l.length := by omega
    subst this
    refine ⟨a, ev_succ ?_, Int.le_refl _⟩
    simp only [laws_szIntSS.l0, if_neg (Int.lt_irrefl _)]
    exact ev_now _ _ rfl
  | succ d ih =>
    intro i a hi hd h0 ha
    have hlt : i < l.length := by omega
    have h1 : (i : Int) < (l.length : Int) := by omega
    have h2 : (0 : Int) ≤ (i : Int) := by omega
    have hs := szIntS_eq l[i] a (by omega) ha (hr _ (List.getElem_mem hlt))
    by_cases hc : a - (l[i].length : Int) < 0
    · refine ⟨-1, ev_succ ?_, by omega⟩
      simp only [laws_szIntSS.l0, if_pos h1, if_pos h2, rdL_nat l i hlt, hs, if_pos hc, Option.bind_some, if_pos (show (-1 : Int) < 0 by omega)]
      exact ev_now _ _ rfl
    · obtain ⟨r, hE, hp⟩ := ih (i + 1) (a - (l[i].length : Int)) (by omega) (by omega) (by omega) (by omega)
      refine ⟨r, ev_succ ?_, by omega⟩
      simp only [laws_szIntSS.l0, if_pos h1, if_pos h2, rdL_nat l i hlt, hs, if_neg hc, Option.bind_some, wrap64_nat_succ (show i < 9223372036854775807 by omega)]
      exact hE
theorem szIntSS_le (l : List (List Int)) (a r : Int) (h0 : 0 ≤ a) (ha : a ≤ 1048576) (hl : l.length ≤ 9223372036854775807) (hr : ∀ r ∈ l, r.length ≤ 9223372036854775807) (h : Ev (fun k => laws_szIntSS.f k l a) r) : r ≤ a := by
  have key : ∃ r, Ev (fun k => laws_szIntSS.f k l a) r ∧ r ≤ a := by
    unfold laws_szIntSS.f
    rw [wrap64_id (by omega) (by omega)]
    by_cases hc : a - (l.length : Int) < 0
    · exact ⟨-1, by simp only [if_pos hc]; exact ev_now _ _ rfl, by omega⟩
    · obtain ⟨r, hE, hp⟩ := szIntSS_ub0 l hl hr l.length 0 (a - (l.length : Int)) (by omega) (by omega) (by omega) (by omega)
      exact ⟨r, by simp only [if_neg hc]; exact hE, by omega⟩
  obtain ⟨r', h1, h2⟩ := key
  rw [Ev_unique h h1]; exact h2
end Go.Proofs.Ytllnieknogficaa.K
namespace Go.Proofs.Ytllnieknogficaa.K
open Go.RowKit Go.Proofs.YtllnieknogficaaW.PrintWords Go.Proofs.YtllnieknogficaaW.PrintLast Go.Proofs.YtllnieknogficaaW.PrintMore
attribute [local go_sem] max2_int min2_int max_two min_two max_three min_three max_four min_four   -- for this text's walks alone
set_option linter.unusedVariables false
set_option linter.unusedSimpArgs false
set_option maxHeartbeats 4000000 in
set_option maxRecDepth 100000 in
theorem FnExactGluePlans_walk (A0 : Option Addr) (c0 : Nat) (l0 : List (List Int)) (A1 : Option Addr) (c1 : Nat) (l1 : List (List Int)) (w : World) (hr0 : Kd.C (Kd.slice 3 (Kd.int .i64)) w A0 l0.length l0) (hc0 : l0.length ≤ c0) (hw0 : ∀ r ∈ l0, r.length ≤ 9223372036854775807) (hr1 : Kd.C (Kd.slice 3 (Kd.int .i64)) w A1 l1.length l1) (hc1 : l1.length ≤ c1) (hw1 : ∀ r ∈ l1, r.length ≤ 9223372036854775807) :
    Calls Try.prog 11 #[.slice A0 l0.length c0, .slice A1 l1.length c1] w fun e w' => e = .returned (.bool true) ∧ Below w.heap.size w w' := by
  have HR0 := Aside0.mk hr0
  have HC0 := Aside0.mk hc0
  have HR1 := Aside0.mk hr1
  have HC1 := Aside0.mk hc1
  obtain ⟨s0, hE0, hp0, hq0⟩ := szIntSS_ev l0 1048576 (by omega) (by omega) (Kd.C_max hr0) hw0
  have hu0 : s0 ≤ 1048576 := szIntSS_le l0 1048576 s0 (by omega) (by omega) (Kd.C_max hr0) hw0 hE0
  obtain ⟨ks0, hS0⟩ := hE0.rounds
  have HS0 := Aside0.mk hS0
  clear hS0 hE0
  by_cases hs0 : 0 ≤ s0
  rotate_left
  · obtain rfl := hq0 hs0
    clear hp0 hq0 hs0
    have HB := Aside0.mk (Below.refl w.heap.size w)
    go_enter Try.func11, Try.ntmps11
    go_wp2_with fail; refine (laws_szIntSS.calls ks0 _ _ l0 1048576 (-1) _ (Kd.C_below HR0.out HB.out) HC0.out HS0.out).mono ?_; rintro e wz0 ⟨rfl, hd⟩; have n_ := Aside0.mk (below_step HB.out hd.below); clear HB hd; have HB := n_; clear n_
    go_wp2
    go_ret
    first | exact ⟨rfl, HB.out⟩ | exact ⟨rfl, below_alloc HB.out _⟩
  have hz0 := hp0 hs0
  have hrows0 : ∀ r ∈ l0, r.length ≤ 1099511627776 := fun r hr => by have := row_le_tot l0 r hr; omega
  obtain ⟨s1, hE1, hp1, hq1⟩ := szIntSS_ev l1 s0 (by omega) (by omega) (Kd.C_max hr1) hw1
  obtain ⟨ks1, hS1⟩ := hE1.rounds
  have HS1 := Aside0.mk hS1
  clear hS1 hE1
  by_cases hs1 : 0 ≤ s1
  rotate_left
  · obtain rfl := hq1 hs1
    clear hp1 hq1 hs1
    have HB := Aside0.mk (Below.refl w.heap.size w)
    go_enter Try.func11, Try.ntmps11
    go_wp2_with fail; refine (laws_szIntSS.calls ks0 _ _ l0 1048576 s0 _ (Kd.C_below HR0.out HB.out) HC0.out HS0.out).mono ?_; rintro e wz0 ⟨rfl, hd⟩; have n_ := Aside0.mk (below_step HB.out hd.below); clear HB hd; have HB := n_; clear n_
    go_wp2_with fail; refine (laws_szIntSS.calls ks1 _ _ l1 s0 (-1) _ (Kd.C_below HR1.out HB.out) HC1.out HS1.out).mono ?_; rintro e wz1 ⟨rfl, hd⟩; have n_ := Aside0.mk (below_step HB.out hd.below); clear HB hd; have HB := n_; clear n_
    go_wp2
    go_ret
    first | exact ⟨rfl, HB.out⟩ | exact ⟨rfl, below_alloc HB.out _⟩
  have hz1 := hp1 hs1
  have hrows1 : ∀ r ∈ l1, r.length ≤ 1099511627776 := fun r hr => by have := row_le_tot l1 r hr; omega
  obtain ⟨R, b1, hPW, hPG, ⟨hR1, hR2, hR3⟩⟩ := GluePlans_pure l0 l1 (by omega) (fun r hr => by have := row_le_tot l0 r hr; omega) (by omega) (fun r hr => by have := row_le_tot l1 r hr; omega)
  obtain ⟨kw, hW⟩ := hPW.rounds
  obtain ⟨kg, hG⟩ := hPG.rounds
  have HW := Aside0.mk hW
  have HG := Aside0.mk hG
  clear hW hG hPW hPG
  obtain ⟨kt0, hT0⟩ := (toIntSS_ev l0 (by omega) hrows0).rounds
  obtain ⟨kx0, hX0⟩ := (eqIntSS_ev l0 (by omega) hrows0).rounds
  have HT0 := Aside0.mk hT0
  have HX0 := Aside0.mk hX0
  clear hT0 hX0
  obtain ⟨kt1, hT1⟩ := (toIntSS_ev l1 (by omega) hrows1).rounds
  obtain ⟨kx1, hX1⟩ := (eqIntSS_ev l1 (by omega) hrows1).rounds
  have HT1 := Aside0.mk hT1
  have HX1 := Aside0.mk hX1
  clear hT1 hX1
  have hk0 : 1 + (laws_markIntSS.tot l0 : Int) ≤ 4611686018427387904 := by omega
  have hl0 : 0 ≤ 1 + (laws_markIntSS.tot l0 : Int) := by omega
  have Tx0 := Aside0.mk hk0
  clear hk0
  have hk1 : 1 + (laws_markIntSS.tot l0 : Int) + (laws_markIntSS.tot l1 : Int) ≤ 4611686018427387904 := by omega
  have hl1 : 0 ≤ 1 + (laws_markIntSS.tot l0 : Int) + (laws_markIntSS.tot l1 : Int) := by omega
  have Tx1 := Aside0.mk hk1
  clear hk1
  have hkR : 1 + (laws_markIntSS.tot R : Int) ≤ 4611686018427387904 := by omega
  have hlR : 0 ≤ 1 + (laws_markIntSS.tot R : Int) := by omega
  have Tg := Aside0.mk hkR
  obtain ⟨kh, hH⟩ := (heldIntSS_ev 1 R (by omega) (by omega) (by omega)).rounds
  obtain ⟨ke, hE⟩ := (eqIntSS_ev R (by omega) (fun r hr => by have := hR2 r hr; omega)).rounds
  have HH := Aside0.mk hH
  have HE := Aside0.mk hE
  clear hH hE hkR
  clear hR1 hR2 hR3 hz0 hrows0 hp0 hq0 hw0 hr0 hc0 hz1 hrows1 hp1 hq1 hw1 hr1 hc1
  have HB := Aside0.mk (Below.refl w.heap.size w)
  go_enter Try.func11, Try.ntmps11
  go_wp2_with fail
  refine (laws_szIntSS.calls ks0 _ _ l0 1048576 s0 _ (Kd.C_below HR0.out HB.out) HC0.out HS0.out).mono ?_
  rintro e w1 ⟨rfl, hd⟩
  have hb := hd.below; clear hd
  have n_ := Aside0.mk (below_step HB.out hb); have z_ := Aside0.mk hb.size; clear HB; have HB := n_; clear n_; have HZ1 := z_; clear z_
  clear hb
  go_wp2_with fail
  refine (laws_szIntSS.calls ks1 _ _ l1 s0 s1 _ (Kd.C_below HR1.out HB.out) HC1.out HS1.out).mono ?_
  rintro e w2 ⟨rfl, hd⟩
  have hb := hd.below; clear hd
  have n_ := Aside0.mk (below_step HB.out hb); have z_ := Aside0.mk hb.size; clear HB; have HB := n_; clear n_; have HZ2 := z_; clear z_
  clear hb
  go_wp2_with fail
  refine (laws_toIntSS.calls kt0 _ _ l0 l0 _ (Kd.C_below HR0.out HB.out) HC0.out HT0.out).mono ?_
  rintro e w3 ⟨y0, rfl, ho0, hb⟩
  have OY0 := Aside0.mk (OwnSS.new ho0 HB.out); clear ho0
  have n_ := Aside0.mk (below_step HB.out hb); have z_ := Aside0.mk hb.size; clear HB; have HB := n_; clear n_; have HZ3 := z_; clear z_
  clear hb
  obtain ⟨Ay0, cy0, e_, l_y0⟩ := OY0.out.reads; subst e_; have Ly0 := Aside0.mk l_y0; clear l_y0
  go_wp2_with fail
  refine (laws_toIntSS.calls kt1 _ _ l1 l1 _ (Kd.C_below HR1.out HB.out) HC1.out HT1.out).mono ?_
  rintro e w4 ⟨y1, rfl, ho0, hb⟩
  have n_ := Aside0.mk (OY0.out.step hb); clear OY0; have OY0 := n_; clear n_
  have OY1 := Aside0.mk (OwnSS.new ho0 HB.out); clear ho0
  have n_ := Aside0.mk (below_step HB.out hb); have z_ := Aside0.mk hb.size; clear HB; have HB := n_; clear n_; have HZ4 := z_; clear z_
  clear hb
  obtain ⟨Ay1, cy1, e_, l_y1⟩ := OY1.out.reads; subst e_; have Ly1 := Aside0.mk l_y1; clear l_y1
  go_wp2_with fail
  refine (spec_GluePlans.calls kw _ _ l0 _ _ l1 R b1 _ OY0.out.c Ly0.out OY1.out.c Ly1.out HW.out).mono ?_
  rintro e w5 ⟨vw, rfl, ho0, hb⟩
  have n_ := Aside0.mk (OY0.out.step hb); clear OY0; have OY0 := n_; clear n_
  have n_ := Aside0.mk (OY1.out.step hb); clear OY1; have OY1 := n_; clear n_
  have OW := Aside0.mk (OwnSS.new ho0 HB.out); clear ho0
  have n_ := Aside0.mk (below_step HB.out hb); have z_ := Aside0.mk hb.size; clear HB; have HB := n_; clear n_; have HZ5 := z_; clear z_
  clear hb
  obtain ⟨Avw, cvw, e_, l_vw⟩ := OW.out.reads; subst e_; have Lvw := Aside0.mk l_vw; clear l_vw
  go_wp2_with fail
  refine (laws_toIntSS.calls kt0 _ _ l0 l0 _ (Kd.C_below HR0.out HB.out) HC0.out HT0.out).mono ?_
  rintro e w6 ⟨x0, rfl, ho0, hb⟩
  have n_ := Aside0.mk (OY0.out.step hb); clear OY0; have OY0 := n_; clear n_
  have n_ := Aside0.mk (OY1.out.step hb); clear OY1; have OY1 := n_; clear n_
  have n_ := Aside0.mk (OW.out.step hb); clear OW; have OW := n_; clear n_
  have OX0 := Aside0.mk (OwnSS.new ho0 HB.out); clear ho0
  have n_ := Aside0.mk (below_step HB.out hb); have z_ := Aside0.mk hb.size; clear HB; have HB := n_; clear n_; have HZ6 := z_; clear z_
  clear hb
  obtain ⟨Ax0, cx0, e_, l_x0⟩ := OX0.out.reads; subst e_; have Lx0 := Aside0.mk l_x0; clear l_x0
  go_wp2_with fail
  refine (laws_toIntSS.calls kt1 _ _ l1 l1 _ (Kd.C_below HR1.out HB.out) HC1.out HT1.out).mono ?_
  rintro e w7 ⟨x1, rfl, ho0, hb⟩
  have n_ := Aside0.mk (OY0.out.step hb); clear OY0; have OY0 := n_; clear n_
  have n_ := Aside0.mk (OY1.out.step hb); clear OY1; have OY1 := n_; clear n_
  have n_ := Aside0.mk (OW.out.step hb); clear OW; have OW := n_; clear n_
  have n_ := Aside0.mk (OX0.out.step hb); clear OX0; have OX0 := n_; clear n_
  have OX1 := Aside0.mk (OwnSS.new ho0 HB.out); clear ho0
  have n_ := Aside0.mk (below_step HB.out hb); have z_ := Aside0.mk hb.size; clear HB; have HB := n_; clear n_; have HZ7 := z_; clear z_
  clear hb
  obtain ⟨Ax1, cx1, e_, l_x1⟩ := OX1.out.reads; subst e_; have Lx1 := Aside0.mk l_x1; clear l_x1
  go_wp2_with fail
  refine (impl_GluePlans.calls kg _ _ l0 _ _ l1 R b1 _ OX0.out.c Lx0.out OX1.out.c Lx1.out HG.out).mono ?_
  rintro e w8 ⟨vg, rfl, ho0, hb⟩
  have n_ := Aside0.mk (OY0.out.step hb); clear OY0; have OY0 := n_; clear n_
  have n_ := Aside0.mk (OY1.out.step hb); clear OY1; have OY1 := n_; clear n_
  have n_ := Aside0.mk (OW.out.step hb); clear OW; have OW := n_; clear n_
  have n_ := Aside0.mk (OX0.out.step hb); clear OX0; have OX0 := n_; clear n_
  have n_ := Aside0.mk (OX1.out.step hb); clear OX1; have OX1 := n_; clear n_
  have OG := Aside0.mk (OwnSS.new ho0 HB.out); clear ho0
  have n_ := Aside0.mk (below_step HB.out hb); have z_ := Aside0.mk hb.size; clear HB; have HB := n_; clear n_; have HZ8 := z_; clear z_
  clear hb
  obtain ⟨Avg, cvg, e_, l_vg⟩ := OG.out.reads; subst e_; have Lvg := Aside0.mk l_vg; clear l_vg
  go_wp2_with fail
  refine (laws_eqIntSS.calls ke _ _ R _ _ R true _ OG.out.c Lvg.out OW.out.c Lvw.out HE.out).mono ?_
  rintro e w9 ⟨rfl, hd⟩
  have hb := hd.below; clear hd
  have n_ := Aside0.mk (OY0.out.step hb); clear OY0; have OY0 := n_; clear n_
  have n_ := Aside0.mk (OY1.out.step hb); clear OY1; have OY1 := n_; clear n_
  have n_ := Aside0.mk (OW.out.step hb); clear OW; have OW := n_; clear n_
  have n_ := Aside0.mk (OX0.out.step hb); clear OX0; have OX0 := n_; clear n_
  have n_ := Aside0.mk (OX1.out.step hb); clear OX1; have OX1 := n_; clear n_
  have n_ := Aside0.mk (OG.out.step hb); clear OG; have OG := n_; clear n_
  have n_ := Aside0.mk (below_step HB.out hb); have z_ := Aside0.mk hb.size; clear HB; have HB := n_; clear n_; have HZ9 := z_; clear z_
  clear hb
  go_wp2_with fail
  refine (laws_toIntSS.calls kt0 _ _ l0 l0 _ (Kd.C_below HR0.out HB.out) HC0.out HT0.out).mono ?_
  rintro e w10 ⟨z0, rfl, ho0, hb⟩
  have n_ := Aside0.mk (OY0.out.step hb); clear OY0; have OY0 := n_; clear n_
  have n_ := Aside0.mk (OY1.out.step hb); clear OY1; have OY1 := n_; clear n_
  have n_ := Aside0.mk (OW.out.step hb); clear OW; have OW := n_; clear n_
  have n_ := Aside0.mk (OX0.out.step hb); clear OX0; have OX0 := n_; clear n_
  have n_ := Aside0.mk (OX1.out.step hb); clear OX1; have OX1 := n_; clear n_
  have n_ := Aside0.mk (OG.out.step hb); clear OG; have OG := n_; clear n_
  have OZ0 := Aside0.mk (OwnSS.new ho0 HB.out); clear ho0
  have n_ := Aside0.mk (below_step HB.out hb); have z_ := Aside0.mk hb.size; clear HB; have HB := n_; clear n_; have HZ10 := z_; clear z_
  clear hb
  obtain ⟨Az0, cz0, e_, l_z0⟩ := OZ0.out.reads; subst e_; have Lz0 := Aside0.mk l_z0; clear l_z0
  go_wp2_with fail
  refine (laws_eqIntSS.calls kx0 _ _ l0 _ _ l0 true _ OX0.out.c Lx0.out OZ0.out.c Lz0.out HX0.out).mono ?_
  rintro e w11 ⟨rfl, hd⟩
  have hb := hd.below; clear hd
  have n_ := Aside0.mk (OY0.out.step hb); clear OY0; have OY0 := n_; clear n_
  have n_ := Aside0.mk (OY1.out.step hb); clear OY1; have OY1 := n_; clear n_
  have n_ := Aside0.mk (OW.out.step hb); clear OW; have OW := n_; clear n_
  have n_ := Aside0.mk (OX0.out.step hb); clear OX0; have OX0 := n_; clear n_
  have n_ := Aside0.mk (OX1.out.step hb); clear OX1; have OX1 := n_; clear n_
  have n_ := Aside0.mk (OG.out.step hb); clear OG; have OG := n_; clear n_
  have n_ := Aside0.mk (OZ0.out.step hb); clear OZ0; have OZ0 := n_; clear n_
  have n_ := Aside0.mk (below_step HB.out hb); have z_ := Aside0.mk hb.size; clear HB; have HB := n_; clear n_; have HZ11 := z_; clear z_
  clear hb
  go_wp2_with fail
  refine (laws_toIntSS.calls kt1 _ _ l1 l1 _ (Kd.C_below HR1.out HB.out) HC1.out HT1.out).mono ?_
  rintro e w12 ⟨z1, rfl, ho0, hb⟩
  have n_ := Aside0.mk (OY0.out.step hb); clear OY0; have OY0 := n_; clear n_
  have n_ := Aside0.mk (OY1.out.step hb); clear OY1; have OY1 := n_; clear n_
  have n_ := Aside0.mk (OW.out.step hb); clear OW; have OW := n_; clear n_
  have n_ := Aside0.mk (OX0.out.step hb); clear OX0; have OX0 := n_; clear n_
  have n_ := Aside0.mk (OX1.out.step hb); clear OX1; have OX1 := n_; clear n_
  have n_ := Aside0.mk (OG.out.step hb); clear OG; have OG := n_; clear n_
  have n_ := Aside0.mk (OZ0.out.step hb); clear OZ0; have OZ0 := n_; clear n_
  have OZ1 := Aside0.mk (OwnSS.new ho0 HB.out); clear ho0
  have n_ := Aside0.mk (below_step HB.out hb); have z_ := Aside0.mk hb.size; clear HB; have HB := n_; clear n_; have HZ12 := z_; clear z_
  clear hb
  obtain ⟨Az1, cz1, e_, l_z1⟩ := OZ1.out.reads; subst e_; have Lz1 := Aside0.mk l_z1; clear l_z1
  go_wp2_with fail
  refine (laws_eqIntSS.calls kx1 _ _ l1 _ _ l1 true _ OX1.out.c Lx1.out OZ1.out.c Lz1.out HX1.out).mono ?_
  rintro e w13 ⟨rfl, hd⟩
  have hb := hd.below; clear hd
  have n_ := Aside0.mk (OY0.out.step hb); clear OY0; have OY0 := n_; clear n_
  have n_ := Aside0.mk (OY1.out.step hb); clear OY1; have OY1 := n_; clear n_
  have n_ := Aside0.mk (OW.out.step hb); clear OW; have OW := n_; clear n_
  have n_ := Aside0.mk (OX0.out.step hb); clear OX0; have OX0 := n_; clear n_
  have n_ := Aside0.mk (OX1.out.step hb); clear OX1; have OX1 := n_; clear n_
  have n_ := Aside0.mk (OG.out.step hb); clear OG; have OG := n_; clear n_
  have n_ := Aside0.mk (OZ0.out.step hb); clear OZ0; have OZ0 := n_; clear n_
  have n_ := Aside0.mk (OZ1.out.step hb); clear OZ1; have OZ1 := n_; clear n_
  have n_ := Aside0.mk (below_step HB.out hb); have z_ := Aside0.mk hb.size; clear HB; have HB := n_; clear n_; have HZ13 := z_; clear z_
  clear hb
  go_wp2_with fail
  refine (laws_markIntSS.calls _ _ l0 (1) w _ (by omega) (by have := Tx0.out; omega) HB.out OX0.out.s).mono ?_
  rintro e w14 ⟨rfl, hs, hb, hk⟩
  have n_ := Aside0.mk (OY0.out.kept hk (fun k h1 h2 h3 => by have := HZ1.out; have := HZ2.out; have := HZ3.out; have := HZ4.out; have := HZ5.out; have := HZ6.out; have := HZ7.out; have := HZ8.out; have := HZ9.out; have := HZ10.out; have := HZ11.out; have := HZ12.out; have := HZ13.out; omega)); clear OY0; have OY0 := n_; clear n_
  have n_ := Aside0.mk (OY1.out.kept hk (fun k h1 h2 h3 => by have := HZ1.out; have := HZ2.out; have := HZ3.out; have := HZ4.out; have := HZ5.out; have := HZ6.out; have := HZ7.out; have := HZ8.out; have := HZ9.out; have := HZ10.out; have := HZ11.out; have := HZ12.out; have := HZ13.out; omega)); clear OY1; have OY1 := n_; clear n_
  have n_ := Aside0.mk (OW.out.kept hk (fun k h1 h2 h3 => by have := HZ1.out; have := HZ2.out; have := HZ3.out; have := HZ4.out; have := HZ5.out; have := HZ6.out; have := HZ7.out; have := HZ8.out; have := HZ9.out; have := HZ10.out; have := HZ11.out; have := HZ12.out; have := HZ13.out; omega)); clear OW; have OW := n_; clear n_
  have n_ := Aside0.mk (OX1.out.kept hk (fun k h1 h2 h3 => by have := HZ1.out; have := HZ2.out; have := HZ3.out; have := HZ4.out; have := HZ5.out; have := HZ6.out; have := HZ7.out; have := HZ8.out; have := HZ9.out; have := HZ10.out; have := HZ11.out; have := HZ12.out; have := HZ13.out; omega)); clear OX1; have OX1 := n_; clear n_
  have n_ := Aside0.mk (OG.out.kept hk (fun k h1 h2 h3 => by have := HZ1.out; have := HZ2.out; have := HZ3.out; have := HZ4.out; have := HZ5.out; have := HZ6.out; have := HZ7.out; have := HZ8.out; have := HZ9.out; have := HZ10.out; have := HZ11.out; have := HZ12.out; have := HZ13.out; omega)); clear OG; have OG := n_; clear n_
  have n_ := Aside0.mk (OZ0.out.kept hk (fun k h1 h2 h3 => by have := HZ1.out; have := HZ2.out; have := HZ3.out; have := HZ4.out; have := HZ5.out; have := HZ6.out; have := HZ7.out; have := HZ8.out; have := HZ9.out; have := HZ10.out; have := HZ11.out; have := HZ12.out; have := HZ13.out; omega)); clear OZ0; have OZ0 := n_; clear n_
  have n_ := Aside0.mk (OZ1.out.kept hk (fun k h1 h2 h3 => by have := HZ1.out; have := HZ2.out; have := HZ3.out; have := HZ4.out; have := HZ5.out; have := HZ6.out; have := HZ7.out; have := HZ8.out; have := HZ9.out; have := HZ10.out; have := HZ11.out; have := HZ12.out; have := HZ13.out; omega)); clear OZ1; have OZ1 := n_; clear n_
  have n_ := Aside0.mk (OX0.out.done hs hk.1); clear OX0; have OX0 := n_; clear n_
  have z_ := Aside0.mk hk.1; clear HB; have HB := Aside0.mk hb; have HZ14 := z_; clear z_ hs hb hk
  go_wp2_with fail
  refine (laws_markIntSS.calls _ _ l1 (1 + (laws_markIntSS.tot l0 : Int)) w _ (by omega) (by have := Tx1.out; omega) HB.out OX1.out.s).mono ?_
  rintro e w15 ⟨rfl, hs, hb, hk⟩
  have n_ := Aside0.mk (OY0.out.kept hk (fun k h1 h2 h3 => by have := HZ1.out; have := HZ2.out; have := HZ3.out; have := HZ4.out; have := HZ5.out; have := HZ6.out; have := HZ7.out; have := HZ8.out; have := HZ9.out; have := HZ10.out; have := HZ11.out; have := HZ12.out; have := HZ13.out; have := HZ14.out; omega)); clear OY0; have OY0 := n_; clear n_
  have n_ := Aside0.mk (OY1.out.kept hk (fun k h1 h2 h3 => by have := HZ1.out; have := HZ2.out; have := HZ3.out; have := HZ4.out; have := HZ5.out; have := HZ6.out; have := HZ7.out; have := HZ8.out; have := HZ9.out; have := HZ10.out; have := HZ11.out; have := HZ12.out; have := HZ13.out; have := HZ14.out; omega)); clear OY1; have OY1 := n_; clear n_
  have n_ := Aside0.mk (OW.out.kept hk (fun k h1 h2 h3 => by have := HZ1.out; have := HZ2.out; have := HZ3.out; have := HZ4.out; have := HZ5.out; have := HZ6.out; have := HZ7.out; have := HZ8.out; have := HZ9.out; have := HZ10.out; have := HZ11.out; have := HZ12.out; have := HZ13.out; have := HZ14.out; omega)); clear OW; have OW := n_; clear n_
  have n_ := Aside0.mk (OX0.out.kept hk (fun k h1 h2 h3 => by have := HZ1.out; have := HZ2.out; have := HZ3.out; have := HZ4.out; have := HZ5.out; have := HZ6.out; have := HZ7.out; have := HZ8.out; have := HZ9.out; have := HZ10.out; have := HZ11.out; have := HZ12.out; have := HZ13.out; have := HZ14.out; omega)); clear OX0; have OX0 := n_; clear n_
  have n_ := Aside0.mk (OG.out.kept hk (fun k h1 h2 h3 => by have := HZ1.out; have := HZ2.out; have := HZ3.out; have := HZ4.out; have := HZ5.out; have := HZ6.out; have := HZ7.out; have := HZ8.out; have := HZ9.out; have := HZ10.out; have := HZ11.out; have := HZ12.out; have := HZ13.out; have := HZ14.out; omega)); clear OG; have OG := n_; clear n_
  have n_ := Aside0.mk (OZ0.out.kept hk (fun k h1 h2 h3 => by have := HZ1.out; have := HZ2.out; have := HZ3.out; have := HZ4.out; have := HZ5.out; have := HZ6.out; have := HZ7.out; have := HZ8.out; have := HZ9.out; have := HZ10.out; have := HZ11.out; have := HZ12.out; have := HZ13.out; have := HZ14.out; omega)); clear OZ0; have OZ0 := n_; clear n_
  have n_ := Aside0.mk (OZ1.out.kept hk (fun k h1 h2 h3 => by have := HZ1.out; have := HZ2.out; have := HZ3.out; have := HZ4.out; have := HZ5.out; have := HZ6.out; have := HZ7.out; have := HZ8.out; have := HZ9.out; have := HZ10.out; have := HZ11.out; have := HZ12.out; have := HZ13.out; have := HZ14.out; omega)); clear OZ1; have OZ1 := n_; clear n_
  have n_ := Aside0.mk (OX1.out.done hs hk.1); clear OX1; have OX1 := n_; clear n_
  have z_ := Aside0.mk hk.1; clear HB; have HB := Aside0.mk hb; have HZ15 := z_; clear z_ hs hb hk
  go_wp2_with fail
  refine (laws_eqIntSS.calls ke _ _ R _ _ R true _ OG.out.c Lvg.out OW.out.c Lvw.out HE.out).mono ?_
  rintro e w16 ⟨rfl, hd⟩
  have hb := hd.below; clear hd
  have n_ := Aside0.mk (OY0.out.step hb); clear OY0; have OY0 := n_; clear n_
  have n_ := Aside0.mk (OY1.out.step hb); clear OY1; have OY1 := n_; clear n_
  have n_ := Aside0.mk (OW.out.step hb); clear OW; have OW := n_; clear n_
  have n_ := Aside0.mk (OX0.out.step hb); clear OX0; have OX0 := n_; clear n_
  have n_ := Aside0.mk (OX1.out.step hb); clear OX1; have OX1 := n_; clear n_
  have n_ := Aside0.mk (OG.out.step hb); clear OG; have OG := n_; clear n_
  have n_ := Aside0.mk (OZ0.out.step hb); clear OZ0; have OZ0 := n_; clear n_
  have n_ := Aside0.mk (OZ1.out.step hb); clear OZ1; have OZ1 := n_; clear n_
  have n_ := Aside0.mk (below_step HB.out hb); have z_ := Aside0.mk hb.size; clear HB; have HB := n_; clear n_; have HZ16 := z_; clear z_
  clear hb
  go_wp2_with fail
  refine (laws_markIntSS.calls _ _ R (1) w _ (by omega) (by have := Tg.out; omega) HB.out OG.out.s).mono ?_
  rintro e w17 ⟨rfl, hs, hb, hk⟩
  have n_ := Aside0.mk (OY0.out.kept hk (fun k h1 h2 h3 => by have := HZ1.out; have := HZ2.out; have := HZ3.out; have := HZ4.out; have := HZ5.out; have := HZ6.out; have := HZ7.out; have := HZ8.out; have := HZ9.out; have := HZ10.out; have := HZ11.out; have := HZ12.out; have := HZ13.out; have := HZ14.out; have := HZ15.out; have := HZ16.out; omega)); clear OY0; have OY0 := n_; clear n_
  have n_ := Aside0.mk (OY1.out.kept hk (fun k h1 h2 h3 => by have := HZ1.out; have := HZ2.out; have := HZ3.out; have := HZ4.out; have := HZ5.out; have := HZ6.out; have := HZ7.out; have := HZ8.out; have := HZ9.out; have := HZ10.out; have := HZ11.out; have := HZ12.out; have := HZ13.out; have := HZ14.out; have := HZ15.out; have := HZ16.out; omega)); clear OY1; have OY1 := n_; clear n_
  have n_ := Aside0.mk (OW.out.kept hk (fun k h1 h2 h3 => by have := HZ1.out; have := HZ2.out; have := HZ3.out; have := HZ4.out; have := HZ5.out; have := HZ6.out; have := HZ7.out; have := HZ8.out; have := HZ9.out; have := HZ10.out; have := HZ11.out; have := HZ12.out; have := HZ13.out; have := HZ14.out; have := HZ15.out; have := HZ16.out; omega)); clear OW; have OW := n_; clear n_
  have n_ := Aside0.mk (OX0.out.kept hk (fun k h1 h2 h3 => by have := HZ1.out; have := HZ2.out; have := HZ3.out; have := HZ4.out; have := HZ5.out; have := HZ6.out; have := HZ7.out; have := HZ8.out; have := HZ9.out; have := HZ10.out; have := HZ11.out; have := HZ12.out; have := HZ13.out; have := HZ14.out; have := HZ15.out; have := HZ16.out; omega)); clear OX0; have OX0 := n_; clear n_
  have n_ := Aside0.mk (OX1.out.kept hk (fun k h1 h2 h3 => by have := HZ1.out; have := HZ2.out; have := HZ3.out; have := HZ4.out; have := HZ5.out; have := HZ6.out; have := HZ7.out; have := HZ8.out; have := HZ9.out; have := HZ10.out; have := HZ11.out; have := HZ12.out; have := HZ13.out; have := HZ14.out; have := HZ15.out; have := HZ16.out; omega)); clear OX1; have OX1 := n_; clear n_
  have n_ := Aside0.mk (OZ0.out.kept hk (fun k h1 h2 h3 => by have := HZ1.out; have := HZ2.out; have := HZ3.out; have := HZ4.out; have := HZ5.out; have := HZ6.out; have := HZ7.out; have := HZ8.out; have := HZ9.out; have := HZ10.out; have := HZ11.out; have := HZ12.out; have := HZ13.out; have := HZ14.out; have := HZ15.out; have := HZ16.out; omega)); clear OZ0; have OZ0 := n_; clear n_
  have n_ := Aside0.mk (OZ1.out.kept hk (fun k h1 h2 h3 => by have := HZ1.out; have := HZ2.out; have := HZ3.out; have := HZ4.out; have := HZ5.out; have := HZ6.out; have := HZ7.out; have := HZ8.out; have := HZ9.out; have := HZ10.out; have := HZ11.out; have := HZ12.out; have := HZ13.out; have := HZ14.out; have := HZ15.out; have := HZ16.out; omega)); clear OZ1; have OZ1 := n_; clear n_
  have n_ := Aside0.mk (OG.out.done hs hk.1); clear OG; have OG := n_; clear n_
  have z_ := Aside0.mk hk.1; clear HB; have HB := Aside0.mk hb; have HZ17 := z_; clear z_ hs hb hk
  go_wp2_with fail
  refine (held_at kh _ _ R _ _ HH.out Lvg.out OG.out.c).mono ?_
  rintro e w18 ⟨rfl, hd⟩
  have hb := hd.below; clear hd
  have n_ := Aside0.mk (OY0.out.step hb); clear OY0; have OY0 := n_; clear n_
  have n_ := Aside0.mk (OY1.out.step hb); clear OY1; have OY1 := n_; clear n_
  have n_ := Aside0.mk (OW.out.step hb); clear OW; have OW := n_; clear n_
  have n_ := Aside0.mk (OX0.out.step hb); clear OX0; have OX0 := n_; clear n_
  have n_ := Aside0.mk (OX1.out.step hb); clear OX1; have OX1 := n_; clear n_
  have n_ := Aside0.mk (OG.out.step hb); clear OG; have OG := n_; clear n_
  have n_ := Aside0.mk (OZ0.out.step hb); clear OZ0; have OZ0 := n_; clear n_
  have n_ := Aside0.mk (OZ1.out.step hb); clear OZ1; have OZ1 := n_; clear n_
  have n_ := Aside0.mk (below_step HB.out hb); have z_ := Aside0.mk hb.size; clear HB; have HB := n_; clear n_; have HZ18 := z_; clear z_
  clear hb
  go_wp2_with fail
  refine (laws_toIntSS.calls kt0 _ _ l0 l0 _ (Kd.C_below HR0.out HB.out) HC0.out HT0.out).mono ?_
  rintro e w19 ⟨u0, rfl, ho0, hb⟩
  have n_ := Aside0.mk (OY0.out.step hb); clear OY0; have OY0 := n_; clear n_
  have n_ := Aside0.mk (OY1.out.step hb); clear OY1; have OY1 := n_; clear n_
  have n_ := Aside0.mk (OW.out.step hb); clear OW; have OW := n_; clear n_
  have n_ := Aside0.mk (OX0.out.step hb); clear OX0; have OX0 := n_; clear n_
  have n_ := Aside0.mk (OX1.out.step hb); clear OX1; have OX1 := n_; clear n_
  have n_ := Aside0.mk (OG.out.step hb); clear OG; have OG := n_; clear n_
  have n_ := Aside0.mk (OZ0.out.step hb); clear OZ0; have OZ0 := n_; clear n_
  have n_ := Aside0.mk (OZ1.out.step hb); clear OZ1; have OZ1 := n_; clear n_
  have OU0 := Aside0.mk (OwnSS.new ho0 HB.out); clear ho0
  have n_ := Aside0.mk (below_step HB.out hb); have z_ := Aside0.mk hb.size; clear HB; have HB := n_; clear n_; have HZ19 := z_; clear z_
  clear hb
  obtain ⟨Au0, cu0, e_, l_u0⟩ := OU0.out.reads; subst e_; have Lu0 := Aside0.mk l_u0; clear l_u0
  go_wp2_with fail
  refine (laws_toIntSS.calls kt1 _ _ l1 l1 _ (Kd.C_below HR1.out HB.out) HC1.out HT1.out).mono ?_
  rintro e w20 ⟨u1, rfl, ho0, hb⟩
  have n_ := Aside0.mk (OY0.out.step hb); clear OY0; have OY0 := n_; clear n_
  have n_ := Aside0.mk (OY1.out.step hb); clear OY1; have OY1 := n_; clear n_
  have n_ := Aside0.mk (OW.out.step hb); clear OW; have OW := n_; clear n_
  have n_ := Aside0.mk (OX0.out.step hb); clear OX0; have OX0 := n_; clear n_
  have n_ := Aside0.mk (OX1.out.step hb); clear OX1; have OX1 := n_; clear n_
  have n_ := Aside0.mk (OG.out.step hb); clear OG; have OG := n_; clear n_
  have n_ := Aside0.mk (OZ0.out.step hb); clear OZ0; have OZ0 := n_; clear n_
  have n_ := Aside0.mk (OZ1.out.step hb); clear OZ1; have OZ1 := n_; clear n_
  have n_ := Aside0.mk (OU0.out.step hb); clear OU0; have OU0 := n_; clear n_
  have OU1 := Aside0.mk (OwnSS.new ho0 HB.out); clear ho0
  have n_ := Aside0.mk (below_step HB.out hb); have z_ := Aside0.mk hb.size; clear HB; have HB := n_; clear n_; have HZ20 := z_; clear z_
  clear hb
  obtain ⟨Au1, cu1, e_, l_u1⟩ := OU1.out.reads; subst e_; have Lu1 := Aside0.mk l_u1; clear l_u1
  go_wp2_with fail
  refine (impl_GluePlans.calls kg _ _ l0 _ _ l1 R b1 _ OU0.out.c Lu0.out OU1.out.c Lu1.out HG.out).mono ?_
  rintro e w21 ⟨vh, rfl, ho0, hb⟩
  have n_ := Aside0.mk (OY0.out.step hb); clear OY0; have OY0 := n_; clear n_
  have n_ := Aside0.mk (OY1.out.step hb); clear OY1; have OY1 := n_; clear n_
  have n_ := Aside0.mk (OW.out.step hb); clear OW; have OW := n_; clear n_
  have n_ := Aside0.mk (OX0.out.step hb); clear OX0; have OX0 := n_; clear n_
  have n_ := Aside0.mk (OX1.out.step hb); clear OX1; have OX1 := n_; clear n_
  have n_ := Aside0.mk (OG.out.step hb); clear OG; have OG := n_; clear n_
  have n_ := Aside0.mk (OZ0.out.step hb); clear OZ0; have OZ0 := n_; clear n_
  have n_ := Aside0.mk (OZ1.out.step hb); clear OZ1; have OZ1 := n_; clear n_
  have n_ := Aside0.mk (OU0.out.step hb); clear OU0; have OU0 := n_; clear n_
  have n_ := Aside0.mk (OU1.out.step hb); clear OU1; have OU1 := n_; clear n_
  have OH := Aside0.mk (OwnSS.new ho0 HB.out); clear ho0
  have n_ := Aside0.mk (below_step HB.out hb); have z_ := Aside0.mk hb.size; clear HB; have HB := n_; clear n_; have HZ21 := z_; clear z_
  clear hb
  obtain ⟨Avh, cvh, e_, l_vh⟩ := OH.out.reads; subst e_; have Lvh := Aside0.mk l_vh; clear l_vh
  go_wp2_with fail
  refine (laws_eqIntSS.calls ke _ _ R _ _ R true _ OH.out.c Lvh.out OW.out.c Lvw.out HE.out).mono ?_
  rintro e w22 ⟨rfl, hd⟩
  have hb := hd.below; clear hd
  have n_ := Aside0.mk (OY0.out.step hb); clear OY0; have OY0 := n_; clear n_
  have n_ := Aside0.mk (OY1.out.step hb); clear OY1; have OY1 := n_; clear n_
  have n_ := Aside0.mk (OW.out.step hb); clear OW; have OW := n_; clear n_
  have n_ := Aside0.mk (OX0.out.step hb); clear OX0; have OX0 := n_; clear n_
  have n_ := Aside0.mk (OX1.out.step hb); clear OX1; have OX1 := n_; clear n_
  have n_ := Aside0.mk (OG.out.step hb); clear OG; have OG := n_; clear n_
  have n_ := Aside0.mk (OZ0.out.step hb); clear OZ0; have OZ0 := n_; clear n_
  have n_ := Aside0.mk (OZ1.out.step hb); clear OZ1; have OZ1 := n_; clear n_
  have n_ := Aside0.mk (OU0.out.step hb); clear OU0; have OU0 := n_; clear n_
  have n_ := Aside0.mk (OU1.out.step hb); clear OU1; have OU1 := n_; clear n_
  have n_ := Aside0.mk (OH.out.step hb); clear OH; have OH := n_; clear n_
  have n_ := Aside0.mk (below_step HB.out hb); have z_ := Aside0.mk hb.size; clear HB; have HB := n_; clear n_; have HZ22 := z_; clear z_
  clear hb
  go_wp2_with fail
  refine (held_at kh _ _ R _ _ HH.out Lvg.out OG.out.c).mono ?_
  rintro e w23 ⟨rfl, hd⟩
  have hb := hd.below; clear hd
  have n_ := Aside0.mk (OY0.out.step hb); clear OY0; have OY0 := n_; clear n_
  have n_ := Aside0.mk (OY1.out.step hb); clear OY1; have OY1 := n_; clear n_
  have n_ := Aside0.mk (OW.out.step hb); clear OW; have OW := n_; clear n_
  have n_ := Aside0.mk (OX0.out.step hb); clear OX0; have OX0 := n_; clear n_
  have n_ := Aside0.mk (OX1.out.step hb); clear OX1; have OX1 := n_; clear n_
  have n_ := Aside0.mk (OG.out.step hb); clear OG; have OG := n_; clear n_
  have n_ := Aside0.mk (OZ0.out.step hb); clear OZ0; have OZ0 := n_; clear n_
  have n_ := Aside0.mk (OZ1.out.step hb); clear OZ1; have OZ1 := n_; clear n_
  have n_ := Aside0.mk (OU0.out.step hb); clear OU0; have OU0 := n_; clear n_
  have n_ := Aside0.mk (OU1.out.step hb); clear OU1; have OU1 := n_; clear n_
  have n_ := Aside0.mk (OH.out.step hb); clear OH; have OH := n_; clear n_
  have n_ := Aside0.mk (below_step HB.out hb); have z_ := Aside0.mk hb.size; clear HB; have HB := n_; clear n_; have HZ23 := z_; clear z_
  clear hb
  go_wp2
  go_ret
  exact ⟨rfl, HB.out⟩
end Go.Proofs.Ytllnieknogficaa.K
namespace Go.Proofs.Ytllnieknogficaa.K
open Go.RowKit Go.Proofs.YtllnieknogficaaW.PrintWords Go.Proofs.YtllnieknogficaaW.PrintLast Go.Proofs.YtllnieknogficaaW.PrintMore
attribute [local go_sem] max2_int min2_int max_two min_two max_three min_three max_four min_four   -- for this text's walks alone
set_option linter.unusedVariables false
set_option linter.unusedSimpArgs false
open Go.ChangeShapes Go.WideShapes Go.ChangeAt Go.Deep
theorem read_int_rows {H : Type} {enc : TypeId × Value → H} {P : Program} {W : World} {t e q : TypeId} {a : Option Addr} {len cap : Nat} {d : DataW H} {ps : List MemPlace} (ht : P.underlying t = some (.slice e)) (he : P.underlying e = some (.slice q)) (hq : P.underlying q = some (.int .i64))
    (ce : P.cellsOf e = 1) (cq : P.cellsOf q = 1) (h : DataW.Trod enc P W 0 (fun _ => true) true t (.slice a len cap) d ps) :
    ∃ l : List (List Int), len = l.length ∧ Kd.C (Kd.slice 3 (Kd.int .i64)) W a l.length l ∧ l.length ≤ cap ∧ ∀ r ∈ l, r.length ≤ 9223372036854775807 := by
  obtain ⟨fuel, hf⟩ := h
  rcases open_int_rows ht he hq ce cq hf with ⟨hcs, _⟩ | ⟨x, l, c, A, L, C, Z, hcs, _, hl, hm, _, hrows⟩
  · simp [Value.cells] at hcs
    obtain ⟨rfl, rfl, rfl⟩ := hcs
    exact ⟨[], rfl, Kd.C_nil _ _, Nat.le_refl _, fun r hr => by simp at hr⟩
  · simp [Value.cells] at hcs
    obtain ⟨rfl, rfl, rfl⟩ := hcs
    have hmx : maxLen = 9223372036854775807 := rfl
    have hlen : ((List.range len).map fun r => (Z r).take (L r)).length = len := by simp
    have hzl : ∀ r, r < cap → ((Z r).take (L r)).length = L r := fun r hr => by
      obtain ⟨_, h1, _, h2, _⟩ := hrows r hr
      rw [List.length_take]
      omega
    refine ⟨(List.range len).map fun r => (Z r).take (L r), hlen.symm, ⟨rfl, by rw [hlen]; omega, fun hp => ⟨x, rfl, fun j p hj => ?_⟩⟩, by rw [hlen]; exact hl, fun r hr => ?_⟩
    · obtain ⟨hjl, hp2⟩ := List.getElem?_eq_some_iff.1 hj
      rw [hlen] at hjl
      obtain ⟨hcell, h1, h2, h3, _, h5, h6⟩ := hrows j (by omega)
      have hp3 : p = (Z j).take (L j) := by rw [← hp2]; simp
      subst hp3
      have hzj := hzl j (by omega)
      refine ⟨[.slice (A j) (L j) (C j)], rfl, ⟨A j, C j, by rw [hzj], by rw [hzj]; exact h1, ⟨rfl, by rw [hzj]; omega, fun hp => ?_⟩⟩, fun i u hu => ?_⟩
      · cases hA : A j with
        | none => rw [hzj] at hp; have := h5 hA; omega
        | some a' =>
          refine ⟨a', rfl, fun i p hi => ⟨[.int .i64 p], rfl, rfl, fun i2 u hu => ?_⟩⟩
          obtain ⟨hil, hpi⟩ := List.getElem?_eq_some_iff.1 hi
          rw [hzj] at hil
          have hcc := (h6 a' hA).2 i (by omega)
          have hi2 : i2 = 0 := by
            have := (List.getElem?_eq_some_iff.1 hu).1
            simpa using this
          subst hi2
          simp at hu
          subst hu
          show W.cell? (a'.add (i * 1 + 0)) = _
          rw [Nat.mul_one, Nat.add_zero, hcc, ← hpi]
          rw [List.getD_eq_getElem?_getD, List.getElem?_eq_getElem (by omega)]
          simp
      · have hi2 : i = 0 := by
          have := (List.getElem?_eq_some_iff.1 hu).1
          simpa using this
        subst hi2
        simp at hu
        subst hu
        show W.cell? (x.add (j * 1 + 0)) = _
        rw [Nat.mul_one, Nat.add_zero, hcell]
    · simp only [List.mem_map, List.mem_range] at hr
      obtain ⟨j, hj, rfl⟩ := hr
      obtain ⟨_, h1, h2, _⟩ := hrows j (by omega)
      rw [hzl j (by omega)]
      omega
end Go.Proofs.Ytllnieknogficaa.K
