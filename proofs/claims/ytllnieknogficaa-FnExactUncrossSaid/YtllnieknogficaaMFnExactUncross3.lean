/-
Part 3 of the proof of the law FnExactUncross: what the Go functions that it reaches come to, each proved of the given program; no condition beside those that each theorem names.
-/
import Derived.Deep.Matrix
import Derived.ProofKit
import Derived.Lib.SmallJoins
import Derived.Test.YtllnieknogficaaMFnExactUncross1
import Derived.Test.YtllnieknogficaaMFnExactUncross2
namespace Go.Proofs.Ytllnieknogficaa.K
open Go.RowKit Go.Proofs.YtllnieknogficaaW.PrintWords Go.Proofs.YtllnieknogficaaW.PrintLast Go.Proofs.YtllnieknogficaaW.PrintMore
attribute [local go_sem] max2_int min2_int max_two min_two max_three min_three max_four min_four   -- for this text's walks alone
set_option linter.unusedVariables false
set_option linter.unusedSimpArgs false
/-! ### copies -/
theorem toIntS_l0 (l : List Int) (hl : l.length ≤ 4611686018427387904) : ∀ d (i : Nat) (x : List Int), i ≤ l.length → l.length - i = d → x.length = l.length → x.take i = l.take i → Ev (fun k => laws_toIntS.l0 k l x (i : Int)) l := by
  intro d
  induction d with
  | zero =>
    intro i x hi hd hx ht
    have : i = l.length := by omega
    subst this
    refine ev_succ ?_
    simp only [laws_toIntS.l0, if_neg (Int.lt_irrefl _)]
    refine ev_now _ _ ?_
    rw [List.take_of_length_le (by omega), List.take_length] at ht
    exact ht
  | succ d ih =>
    intro i x hi hd hx ht
    have hlt : i < l.length := by omega
    have h1 : (i : Int) < (l.length : Int) := by omega
    have h2 : (0 : Int) ≤ (i : Int) := by omega
    have h3 : (i : Int) < (x.length : Int) := by omega
    refine ev_succ ?_
    simp only [laws_toIntS.l0, if_pos h1, if_pos h2, if_pos h3, wrap64_nat_succ (show i < 9223372036854775807 by omega), Int.toNat_natCast, rd_nat l i hlt]
    refine ih (i + 1) _ (by omega) (by omega) (by simpa using hx) ?_
    rw [List.take_succ_eq_append_getElem (by simpa [hx] using hlt), List.take_succ_eq_append_getElem hlt, List.take_set_of_le (Nat.le_refl _), ht, List.getElem_set_self]
theorem toIntS_ev (l : List Int) (hl : l.length ≤ 1099511627776) : Ev (fun k => laws_toIntS.f k l) l := by
  unfold laws_toIntS.f
  have h1 : (0 : Int) ≤ (l.length : Int) := by omega
  have h2 : l.length ≤ 35184372088832 := by omega
  simp only [if_pos h1, if_pos h2, Int.toNat_natCast]
  exact toIntS_l0 l (by omega) l.length 0 (List.replicate l.length 0) (by omega) (by omega) (by simp) (by simp)
theorem toIntSS_l0 (l : List (List Int)) (hl : l.length ≤ 4611686018427387904) (hr : ∀ r ∈ l, r.length ≤ 1099511627776) : ∀ d (i : Nat) (x : List (List Int)), i ≤ l.length → l.length - i = d → x.length = l.length → x.take i = l.take i → Ev (fun k => laws_toIntSS.l0 k l x (i : Int)) l := by
  intro d
  induction d with
  | zero =>
    intro i x hi hd hx ht
    have : i = l.length := by omega
    subst this
    refine ev_succ ?_
    simp only [laws_toIntSS.l0, if_neg (Int.lt_irrefl _)]
    refine ev_now _ _ ?_
    rw [List.take_of_length_le (by omega), List.take_length] at ht
    exact ht
  | succ d ih =>
    intro i x hi hd hx ht
    have hlt : i < l.length := by omega
    have h1 : (i : Int) < (l.length : Int) := by omega
    have h2 : (0 : Int) ≤ (i : Int) := by omega
    have h3 : (i : Int) < (x.length : Int) := by omega
    refine ev_succ ?_
    simp only [laws_toIntSS.l0, if_pos h1, if_pos h2, if_pos h3, wrap64_nat_succ (show i < 9223372036854775807 by omega), Int.toNat_natCast, rdL_nat l i hlt]
    refine Ev.bind (toIntS_ev l[i] (hr _ (List.getElem_mem hlt))) ?_
    refine ih (i + 1) _ (by omega) (by omega) (by simpa using hx) ?_
    rw [List.take_succ_eq_append_getElem (by simpa [hx] using hlt), List.take_succ_eq_append_getElem hlt, List.take_set_of_le (Nat.le_refl _), ht, List.getElem_set_self]
theorem toIntSS_ev (l : List (List Int)) (hl : l.length ≤ 1099511627776) (hr : ∀ r ∈ l, r.length ≤ 1099511627776) : Ev (fun k => laws_toIntSS.f k l) l := by
  unfold laws_toIntSS.f
  have h1 : (0 : Int) ≤ (l.length : Int) := by omega
  have h2 : l.length ≤ 11728124029610 := by omega
  simp only [if_pos h1, if_pos h2, Int.toNat_natCast]
  exact toIntSS_l0 l (by omega) hr l.length 0 (List.replicate l.length []) (by omega) (by omega) (by simp) (by simp)
/-! ### equality -/
theorem eqIntS_l0 (l : List Int) (hl : l.length ≤ 4611686018427387904) : ∀ d (i : Nat), i ≤ l.length → l.length - i = d → Ev (fun k => laws_eqIntS.l0 k l l (i : Int)) true := by
  intro d
  induction d with
  | zero =>
    intro i hi hd
    have : i = l.length := by omega
    subst this
    refine ev_succ ?_
    simp only [laws_eqIntS.l0, if_neg (Int.lt_irrefl _)]
    exact ev_now _ _ rfl
  | succ d ih =>
    intro i hi hd
    have h1 : (i : Int) < (l.length : Int) := by omega
    have h2 : (0 : Int) ≤ (i : Int) := by omega
    refine ev_succ ?_
    simp only [laws_eqIntS.l0, if_pos h1, if_pos h2, if_true, wrap64_nat_succ (show i < 9223372036854775807 by omega)]
    exact ih (i + 1) (by omega) (by omega)
theorem eqIntS_ev (l : List Int) (hl : l.length ≤ 1099511627776) : Ev (fun k => laws_eqIntS.f k l l) true := by
  unfold laws_eqIntS.f
  simp only [if_true]
  exact eqIntS_l0 l (by omega) l.length 0 (by omega) (by omega)
theorem eqIntSS_l0 (l : List (List Int)) (hl : l.length ≤ 4611686018427387904) (hr : ∀ r ∈ l, r.length ≤ 1099511627776) : ∀ d (i : Nat), i ≤ l.length → l.length - i = d → Ev (fun k => laws_eqIntSS.l0 k l l (i : Int)) true := by
  intro d
  induction d with
  | zero =>
    intro i hi hd
    have : i = l.length := by omega
    subst this
    refine ev_succ ?_
    simp only [laws_eqIntSS.l0, if_neg (Int.lt_irrefl _)]
    exact ev_now _ _ rfl
  | succ d ih =>
    intro i hi hd
    have hlt : i < l.length := by omega
    have h1 : (i : Int) < (l.length : Int) := by omega
    have h2 : (0 : Int) ≤ (i : Int) := by omega
    refine ev_succ ?_
    simp only [laws_eqIntSS.l0, if_pos h1, if_pos h2, rdL_nat l i hlt, wrap64_nat_succ (show i < 9223372036854775807 by omega)]
    refine Ev.bind (eqIntS_ev l[i] (hr _ (List.getElem_mem hlt))) ?_
    simp only [if_true]
    exact ih (i + 1) (by omega) (by omega)
theorem eqIntSS_ev (l : List (List Int)) (hl : l.length ≤ 1099511627776) (hr : ∀ r ∈ l, r.length ≤ 1099511627776) : Ev (fun k => laws_eqIntSS.f k l l) true := by
  unfold laws_eqIntSS.f
  simp only [if_true]
  exact eqIntSS_l0 l (by omega) hr l.length 0 (by omega) (by omega)
/-! ### marks that are held -/
theorem heldIntS_l0 (a : Int) (n : Nat) (h0 : 0 ≤ a) (hl : a + (n : Int) ≤ 4611686018427387904) : ∀ d (i : Nat), i ≤ n → n - i = d → Ev (fun k => laws_heldIntS.l0 k (laws_markIntSS.row a n) (a + (i : Int)) (i : Int)) (a + (n : Int)) := by
  intro d
  induction d with
  | zero =>
    intro i hi hd
    have : i = n := by omega
    subst this
    refine ev_succ ?_
    simp only [laws_heldIntS.l0, laws_markIntSS.row_length, if_neg (Int.lt_irrefl _)]
    exact ev_now _ _ rfl
  | succ d ih =>
    intro i hi hd
    have h1 : (i : Int) < ((laws_markIntSS.row a n).length : Int) := by rw [laws_markIntSS.row_length]; omega
    have h2 : (0 : Int) ≤ (i : Int) := by omega
    have h3 : rd (laws_markIntSS.row a n) (i : Int) = a + (i : Int) := by rw [rd_nat _ i (by rw [laws_markIntSS.row_length]; omega)]; simp [laws_markIntSS.row]
    have h4 : wrap64 (a + (i : Int) + 1) = a + ((i + 1 : Nat) : Int) := by unfold wrap64; omega
    refine ev_succ ?_
    simp only [laws_heldIntS.l0, if_pos h1, if_pos h2, if_pos h3, h4, wrap64_nat_succ (show i < 9223372036854775807 by omega)]
    exact ih (i + 1) (by omega) (by omega)
theorem heldIntS_ev (a : Int) (n : Nat) (h0 : 0 ≤ a) (hl : a + (n : Int) ≤ 4611686018427387904) : Ev (fun k => laws_heldIntS.f k (laws_markIntSS.row a n) a) (a + (n : Int)) := by
  unfold laws_heldIntS.f
  have := heldIntS_l0 a n h0 hl n 0 (by omega) (by omega)
  simpa using this
theorem rows_at (a : Int) (l : List (List Int)) (i : Nat) (h : i < l.length) : (laws_markIntSS.rows a l)[i]'(by rw [laws_markIntSS.rows_length]; exact h) = laws_markIntSS.row (a + (laws_markIntSS.tot (l.take i) : Int)) l[i].length := by
  induction l generalizing a i with
  | nil => simp at h
  | cons r t ih =>
    cases i with
    | zero => simp [laws_markIntSS.rows, laws_markIntSS.tot]
    | succ i =>
      have h' : i < t.length := by simpa using h
      have := ih (a + (r.length : Int)) i h'
      simp only [laws_markIntSS.rows, List.getElem_cons_succ, List.take_succ_cons, laws_markIntSS.tot]
      rw [this]
      congr 1
      push_cast
      omega
theorem heldIntSS_l0 (a : Int) (l : List (List Int)) (h0 : 0 ≤ a) (hl : a + (laws_markIntSS.tot l : Int) ≤ 4611686018427387904) (hn : l.length ≤ 4611686018427387904) : ∀ d (i : Nat), i ≤ l.length → l.length - i = d →
    Ev (fun k => laws_heldIntSS.l0 k (laws_markIntSS.rows a l) (a + (laws_markIntSS.tot (l.take i) : Int)) (i : Int)) (a + (laws_markIntSS.tot l : Int)) := by
  intro d
  induction d with
  | zero =>
    intro i hi hd
    have : i = l.length := by omega
    subst this
    refine ev_succ ?_
    simp only [laws_heldIntSS.l0, laws_markIntSS.rows_length, if_neg (Int.lt_irrefl _), List.take_length]
    exact ev_now _ _ rfl
  | succ d ih =>
    intro i hi hd
    have hlt : i < l.length := by omega
    have h1 : (i : Int) < ((laws_markIntSS.rows a l).length : Int) := by rw [laws_markIntSS.rows_length]; omega
    have h2 : (0 : Int) ≤ (i : Int) := by omega
    have ht := laws_markIntSS.tot_take l i hlt
    have hle := laws_markIntSS.tot_le l (i + 1)
    have h3 : rd_L2 (laws_markIntSS.rows a l) (i : Int) = laws_markIntSS.row (a + (laws_markIntSS.tot (l.take i) : Int)) l[i].length := by rw [rdL_nat _ i (by rw [laws_markIntSS.rows_length]; exact hlt), rows_at a l i hlt]
    refine ev_succ ?_
    simp only [laws_heldIntSS.l0, if_pos h1, if_pos h2, h3, wrap64_nat_succ (show i < 9223372036854775807 by omega)]
    refine Ev.bind (heldIntS_ev _ _ (by omega) (by omega)) ?_
    have h5 : ¬ (a + (laws_markIntSS.tot (l.take i) : Int) + (l[i].length : Int) < 0) := by omega
    have h6 : a + (laws_markIntSS.tot (l.take i) : Int) + (l[i].length : Int) = a + (laws_markIntSS.tot (l.take (i + 1)) : Int) := by rw [ht]; push_cast; omega
    simp only [if_neg h5]
    rw [h6]
    exact ih (i + 1) (by omega) (by omega)
theorem heldIntSS_ev (a : Int) (l : List (List Int)) (h0 : 0 ≤ a) (hl : a + (laws_markIntSS.tot l : Int) ≤ 4611686018427387904) (hn : l.length ≤ 4611686018427387904) : Ev (fun k => laws_heldIntSS.f k (laws_markIntSS.rows a l) a) (a + (laws_markIntSS.tot l : Int)) := by
  unfold laws_heldIntSS.f
  have := heldIntSS_l0 a l h0 hl hn l.length 0 (by omega) (by omega)
  simpa [laws_markIntSS.tot] using this
/-! ### sizes -/
theorem szIntS_eq (l : List Int) (a : Int) (ha : -1 ≤ a) (ha2 : a ≤ 1048576) (hl : l.length ≤ 9223372036854775807) : laws_szIntS.f l a = some (if a - (l.length : Int) < 0 then -1 else a - (l.length : Int)) := by
  unfold laws_szIntS.f
  rw [wrap64_id (by omega) (by omega)]
  split <;> rfl
/-- It comes to something; if that is not negative, there is little. -/
theorem szIntSS_l0 (l : List (List Int)) (hl : l.length ≤ 9223372036854775807) (hr : ∀ r ∈ l, r.length ≤ 9223372036854775807) : ∀ d (i : Nat) (a : Int), i ≤ l.length → l.length - i = d → 0 ≤ a → a ≤ 1048576 →
    ∃ r, Ev (fun k => laws_szIntSS.l0 k l a (i : Int)) r ∧ (0 ≤ r → (laws_markIntSS.tot (l.drop i) : Int) ≤ a) ∧ (¬ 0 ≤ r → r = -1) := by
  intro d
  induction d with
  | zero =>
    intro i a hi hd h0 ha
    have : i = l.length := by omega
    subst this
    refine ⟨a, ev_succ ?_, fun _ => ?_, fun h => absurd h0 h⟩
    · simp only [laws_szIntSS.l0, if_neg (Int.lt_irrefl _)]
      exact ev_now _ _ rfl
    · rw [List.drop_length]; simpa [laws_markIntSS.tot] using h0
  | succ d ih =>
    intro i a hi hd h0 ha
    have hlt : i < l.length := by omega
    have h1 : (i : Int) < (l.length : Int) := by omega
    have h2 : (0 : Int) ≤ (i : Int) := by omega
    have hs := szIntS_eq l[i] a (by omega) ha (hr _ (List.getElem_mem hlt))
    by_cases hc : a - (l[i].length : Int) < 0
    · refine ⟨-1, ev_succ ?_, fun h => by omega, fun _ => rfl⟩
      simp only [laws_szIntSS.l0, if_pos h1, if_pos h2, rdL_nat l i hlt, hs, if_pos hc, Option.bind_some, if_pos (show (-1 : Int) < 0 by omega)]
      exact ev_now _ _ rfl
    · obtain ⟨r, hE, hp, hq⟩ := ih (i + 1) (a - (l[i].length : Int)) (by omega) (by omega) (by omega) (by omega)
      refine ⟨r, ev_succ ?_, fun h => ?_, hq⟩
      · simp only [laws_szIntSS.l0, if_pos h1, if_pos h2, rdL_nat l i hlt, hs, if_neg hc, Option.bind_some, wrap64_nat_succ (show i < 9223372036854775807 by omega)]
        exact hE
      · rw [List.drop_eq_getElem_cons hlt]
        have := hp h
        simp only [laws_markIntSS.tot]
        push_cast
        omega
theorem szIntSS_ev (l : List (List Int)) (a : Int) (h0 : 0 ≤ a) (ha : a ≤ 1048576) (hl : l.length ≤ 9223372036854775807) (hr : ∀ r ∈ l, r.length ≤ 9223372036854775807) :
    ∃ r, Ev (fun k => laws_szIntSS.f k l a) r ∧ (0 ≤ r → (laws_markIntSS.tot l : Int) + (l.length : Int) ≤ a) ∧ (¬ 0 ≤ r → r = -1) := by
  unfold laws_szIntSS.f
  rw [wrap64_id (by omega) (by omega)]
  by_cases hc : a - (l.length : Int) < 0
  · exact ⟨-1, by simp only [if_pos hc]; exact ev_now _ _ rfl, fun h => by omega, fun _ => rfl⟩
  · obtain ⟨r, hE, hp, hq⟩ := szIntSS_l0 l hl hr l.length 0 (a - (l.length : Int)) (by omega) (by omega) (by omega) (by omega)
    refine ⟨r, ?_, fun h => ?_, hq⟩
    · simp only [if_neg hc]; exact hE
    · have := hp h
      rw [List.drop_zero] at this
      omega
theorem row_le_tot (l : List (List Int)) (r : List Int) (h : r ∈ l) : r.length ≤ laws_markIntSS.tot l := by
  induction l with
  | nil => simp at h
  | cons x t ih =>
    rcases List.mem_cons.1 h with h | h
    · subst h; simp [laws_markIntSS.tot]
    · have := ih h; simp [laws_markIntSS.tot]; omega
/-- heldIntSS over what was marked, its length as the walk has it. -/
theorem held_at (k : Nat) (A : Option Addr) (c : Nat) (R : List (List Int)) (q : Int) (w : World) (h : laws_heldIntSS.f k (laws_markIntSS.rows 1 R) 1 = some q) (hc : R.length ≤ c) (hr : Kd.C (Kd.slice 3 (Kd.int .i64)) w A (laws_markIntSS.rows 1 R).length (laws_markIntSS.rows 1 R)) :
    Calls Try.prog 40 #[.slice A R.length c, .int .i64 1] w fun e w' => e = .returned (.int .i64 q) ∧ Drawn0 w w' := by
  have := laws_heldIntSS.calls k A c (laws_markIntSS.rows 1 R) 1 q w hr (by rw [laws_markIntSS.rows_length]; exact hc) h
  rwa [laws_markIntSS.rows_length] at this
end Go.Proofs.Ytllnieknogficaa.K
namespace Go.Proofs.Ytllnieknogficaa.K
open Go.RowKit Go.Proofs.YtllnieknogficaaW.PrintWords Go.Proofs.YtllnieknogficaaW.PrintLast Go.Proofs.YtllnieknogficaaW.PrintMore
attribute [local go_sem] max2_int min2_int max_two min_two max_three min_three max_four min_four   -- for this text's walks alone
set_option linter.unusedVariables false
set_option linter.unusedSimpArgs false
set_option maxHeartbeats 4000000 in
set_option maxRecDepth 100000 in
theorem FnExactUncross_walk (A0 : Option Addr) (c0 : Nat) (l0 : List (List Int)) (w : World) (hr0 : Kd.C (Kd.slice 3 (Kd.int .i64)) w A0 l0.length l0) (hc0 : l0.length ≤ c0) (hw0 : ∀ r ∈ l0, r.length ≤ 9223372036854775807) :
    Calls Try.prog 10 #[.slice A0 l0.length c0] w fun e w' => e = .returned (.bool true) ∧ Below w.heap.size w w' := by
  have HR0 := Aside0.mk hr0
  have HC0 := Aside0.mk hc0
  obtain ⟨s0, hE0, hp0, hq0⟩ := szIntSS_ev l0 1048576 (by omega) (by omega) (Kd.C_max hr0) hw0
  obtain ⟨ks0, hS0⟩ := hE0.rounds
  have HS0 := Aside0.mk hS0
  clear hS0 hE0
  by_cases hs0 : 0 ≤ s0
  rotate_left
  · obtain rfl := hq0 hs0
    clear hp0 hq0 hs0
    have HB := Aside0.mk (Below.refl w.heap.size w)
    go_enter Try.func10, Try.ntmps10
    go_wp2_with fail; refine (laws_szIntSS.calls ks0 _ _ l0 1048576 (-1) _ (Kd.C_below HR0.out HB.out) HC0.out HS0.out).mono ?_; rintro e wz0 ⟨rfl, hd⟩; have n_ := Aside0.mk (below_step HB.out hd.below); clear HB hd; have HB := n_; clear n_
    go_wp2
    go_ret
    first | exact ⟨rfl, HB.out⟩ | exact ⟨rfl, below_alloc HB.out _⟩
  have hz0 := hp0 hs0
  have hrows0 : ∀ r ∈ l0, r.length ≤ 1099511627776 := fun r hr => by have := row_le_tot l0 r hr; omega
  obtain ⟨R, b1, b2, hPW, hPG, ⟨hR1, hR2, hR3⟩⟩ := Uncross_pure l0 (by omega) (fun r hr => by have := row_le_tot l0 r hr; omega)
  obtain ⟨kw, hW⟩ := hPW.rounds
  obtain ⟨kg, hG⟩ := hPG.rounds
  have HW := Aside0.mk hW
  have HG := Aside0.mk hG
  clear hW hG hPW hPG
  obtain ⟨kt0, hT0⟩ := (toIntSS_ev l0 (by omega) hrows0).rounds
  obtain ⟨kx0, hX0⟩ := (eqIntSS_ev l0 (by omega) hrows0).rounds
  have HT0 := Aside0.mk hT0
  have HX0 := Aside0.mk hX0
  clear hT0 hX0
  have hk0 : 1 + (laws_markIntSS.tot l0 : Int) ≤ 4611686018427387904 := by omega
  have hl0 : 0 ≤ 1 + (laws_markIntSS.tot l0 : Int) := by omega
  have Tx0 := Aside0.mk hk0
  clear hk0
  have hkR : 1 + (laws_markIntSS.tot R : Int) ≤ 4611686018427387904 := by omega
  have hlR : 0 ≤ 1 + (laws_markIntSS.tot R : Int) := by omega
  have Tg := Aside0.mk hkR
  obtain ⟨kh, hH⟩ := (heldIntSS_ev 1 R (by omega) (by omega) (by omega)).rounds
  obtain ⟨ke, hE⟩ := (eqIntSS_ev R (by omega) (fun r hr => by have := hR2 r hr; omega)).rounds
  have HH := Aside0.mk hH
  have HE := Aside0.mk hE
  clear hH hE hkR
  clear hR1 hR2 hR3 hz0 hrows0 hp0 hq0 hw0 hr0 hc0
  have HB := Aside0.mk (Below.refl w.heap.size w)
  go_enter Try.func10, Try.ntmps10
  go_wp2_with fail
  refine (laws_szIntSS.calls ks0 _ _ l0 1048576 s0 _ (Kd.C_below HR0.out HB.out) HC0.out HS0.out).mono ?_
  rintro e w1 ⟨rfl, hd⟩
  have hb := hd.below; clear hd
  have n_ := Aside0.mk (below_step HB.out hb); have z_ := Aside0.mk hb.size; clear HB; have HB := n_; clear n_; have HZ1 := z_; clear z_
  clear hb
  go_wp2_with fail
  refine (laws_toIntSS.calls kt0 _ _ l0 l0 _ (Kd.C_below HR0.out HB.out) HC0.out HT0.out).mono ?_
  rintro e w2 ⟨y0, rfl, ho0, hb⟩
  have OY0 := Aside0.mk (OwnSS.new ho0 HB.out); clear ho0
  have n_ := Aside0.mk (below_step HB.out hb); have z_ := Aside0.mk hb.size; clear HB; have HB := n_; clear n_; have HZ2 := z_; clear z_
  clear hb
  obtain ⟨Ay0, cy0, e_, l_y0⟩ := OY0.out.reads; subst e_; have Ly0 := Aside0.mk l_y0; clear l_y0
  go_wp2_with fail
  refine (spec_Uncross.calls kw _ _ l0 R b1 b2 _ OY0.out.c Ly0.out HW.out).mono ?_
  rintro e w3 ⟨vw, rfl, ho0, hb⟩
  have n_ := Aside0.mk (OY0.out.step hb); clear OY0; have OY0 := n_; clear n_
  have OW := Aside0.mk (OwnSS.new ho0 HB.out); clear ho0
  have n_ := Aside0.mk (below_step HB.out hb); have z_ := Aside0.mk hb.size; clear HB; have HB := n_; clear n_; have HZ3 := z_; clear z_
  clear hb
  obtain ⟨Avw, cvw, e_, l_vw⟩ := OW.out.reads; subst e_; have Lvw := Aside0.mk l_vw; clear l_vw
  go_wp2_with fail
  refine (laws_toIntSS.calls kt0 _ _ l0 l0 _ (Kd.C_below HR0.out HB.out) HC0.out HT0.out).mono ?_
  rintro e w4 ⟨x0, rfl, ho0, hb⟩
  have n_ := Aside0.mk (OY0.out.step hb); clear OY0; have OY0 := n_; clear n_
  have n_ := Aside0.mk (OW.out.step hb); clear OW; have OW := n_; clear n_
  have OX0 := Aside0.mk (OwnSS.new ho0 HB.out); clear ho0
  have n_ := Aside0.mk (below_step HB.out hb); have z_ := Aside0.mk hb.size; clear HB; have HB := n_; clear n_; have HZ4 := z_; clear z_
  clear hb
  obtain ⟨Ax0, cx0, e_, l_x0⟩ := OX0.out.reads; subst e_; have Lx0 := Aside0.mk l_x0; clear l_x0
  go_wp2_with fail
  refine (impl_Uncross.calls kg _ _ l0 R b1 b2 _ OX0.out.c Lx0.out HG.out).mono ?_
  rintro e w5 ⟨vg, rfl, ho0, hb⟩
  have n_ := Aside0.mk (OY0.out.step hb); clear OY0; have OY0 := n_; clear n_
  have n_ := Aside0.mk (OW.out.step hb); clear OW; have OW := n_; clear n_
  have n_ := Aside0.mk (OX0.out.step hb); clear OX0; have OX0 := n_; clear n_
  have OG := Aside0.mk (OwnSS.new ho0 HB.out); clear ho0
  have n_ := Aside0.mk (below_step HB.out hb); have z_ := Aside0.mk hb.size; clear HB; have HB := n_; clear n_; have HZ5 := z_; clear z_
  clear hb
  obtain ⟨Avg, cvg, e_, l_vg⟩ := OG.out.reads; subst e_; have Lvg := Aside0.mk l_vg; clear l_vg
  go_wp2_with fail
  refine (laws_eqIntSS.calls ke _ _ R _ _ R true _ OG.out.c Lvg.out OW.out.c Lvw.out HE.out).mono ?_
  rintro e w6 ⟨rfl, hd⟩
  have hb := hd.below; clear hd
  have n_ := Aside0.mk (OY0.out.step hb); clear OY0; have OY0 := n_; clear n_
  have n_ := Aside0.mk (OW.out.step hb); clear OW; have OW := n_; clear n_
  have n_ := Aside0.mk (OX0.out.step hb); clear OX0; have OX0 := n_; clear n_
  have n_ := Aside0.mk (OG.out.step hb); clear OG; have OG := n_; clear n_
  have n_ := Aside0.mk (below_step HB.out hb); have z_ := Aside0.mk hb.size; clear HB; have HB := n_; clear n_; have HZ6 := z_; clear z_
  clear hb
  go_wp2_with fail
  refine (laws_toIntSS.calls kt0 _ _ l0 l0 _ (Kd.C_below HR0.out HB.out) HC0.out HT0.out).mono ?_
  rintro e w7 ⟨z0, rfl, ho0, hb⟩
  have n_ := Aside0.mk (OY0.out.step hb); clear OY0; have OY0 := n_; clear n_
  have n_ := Aside0.mk (OW.out.step hb); clear OW; have OW := n_; clear n_
  have n_ := Aside0.mk (OX0.out.step hb); clear OX0; have OX0 := n_; clear n_
  have n_ := Aside0.mk (OG.out.step hb); clear OG; have OG := n_; clear n_
  have OZ0 := Aside0.mk (OwnSS.new ho0 HB.out); clear ho0
  have n_ := Aside0.mk (below_step HB.out hb); have z_ := Aside0.mk hb.size; clear HB; have HB := n_; clear n_; have HZ7 := z_; clear z_
  clear hb
  obtain ⟨Az0, cz0, e_, l_z0⟩ := OZ0.out.reads; subst e_; have Lz0 := Aside0.mk l_z0; clear l_z0
  go_wp2_with fail
  refine (laws_eqIntSS.calls kx0 _ _ l0 _ _ l0 true _ OX0.out.c Lx0.out OZ0.out.c Lz0.out HX0.out).mono ?_
  rintro e w8 ⟨rfl, hd⟩
  have hb := hd.below; clear hd
  have n_ := Aside0.mk (OY0.out.step hb); clear OY0; have OY0 := n_; clear n_
  have n_ := Aside0.mk (OW.out.step hb); clear OW; have OW := n_; clear n_
  have n_ := Aside0.mk (OX0.out.step hb); clear OX0; have OX0 := n_; clear n_
  have n_ := Aside0.mk (OG.out.step hb); clear OG; have OG := n_; clear n_
  have n_ := Aside0.mk (OZ0.out.step hb); clear OZ0; have OZ0 := n_; clear n_
  have n_ := Aside0.mk (below_step HB.out hb); have z_ := Aside0.mk hb.size; clear HB; have HB := n_; clear n_; have HZ8 := z_; clear z_
  clear hb
  go_wp2_with fail
  refine (laws_markIntSS.calls _ _ l0 (1) w _ (by omega) (by have := Tx0.out; omega) HB.out OX0.out.s).mono ?_
  rintro e w9 ⟨rfl, hs, hb, hk⟩
  have n_ := Aside0.mk (OY0.out.kept hk (fun k h1 h2 h3 => by have := HZ1.out; have := HZ2.out; have := HZ3.out; have := HZ4.out; have := HZ5.out; have := HZ6.out; have := HZ7.out; have := HZ8.out; omega)); clear OY0; have OY0 := n_; clear n_
  have n_ := Aside0.mk (OW.out.kept hk (fun k h1 h2 h3 => by have := HZ1.out; have := HZ2.out; have := HZ3.out; have := HZ4.out; have := HZ5.out; have := HZ6.out; have := HZ7.out; have := HZ8.out; omega)); clear OW; have OW := n_; clear n_
  have n_ := Aside0.mk (OG.out.kept hk (fun k h1 h2 h3 => by have := HZ1.out; have := HZ2.out; have := HZ3.out; have := HZ4.out; have := HZ5.out; have := HZ6.out; have := HZ7.out; have := HZ8.out; omega)); clear OG; have OG := n_; clear n_
  have n_ := Aside0.mk (OZ0.out.kept hk (fun k h1 h2 h3 => by have := HZ1.out; have := HZ2.out; have := HZ3.out; have := HZ4.out; have := HZ5.out; have := HZ6.out; have := HZ7.out; have := HZ8.out; omega)); clear OZ0; have OZ0 := n_; clear n_
  have n_ := Aside0.mk (OX0.out.done hs hk.1); clear OX0; have OX0 := n_; clear n_
  have z_ := Aside0.mk hk.1; clear HB; have HB := Aside0.mk hb; have HZ9 := z_; clear z_ hs hb hk
  go_wp2_with fail
  refine (laws_eqIntSS.calls ke _ _ R _ _ R true _ OG.out.c Lvg.out OW.out.c Lvw.out HE.out).mono ?_
  rintro e w10 ⟨rfl, hd⟩
  have hb := hd.below; clear hd
  have n_ := Aside0.mk (OY0.out.step hb); clear OY0; have OY0 := n_; clear n_
  have n_ := Aside0.mk (OW.out.step hb); clear OW; have OW := n_; clear n_
  have n_ := Aside0.mk (OX0.out.step hb); clear OX0; have OX0 := n_; clear n_
  have n_ := Aside0.mk (OG.out.step hb); clear OG; have OG := n_; clear n_
  have n_ := Aside0.mk (OZ0.out.step hb); clear OZ0; have OZ0 := n_; clear n_
  have n_ := Aside0.mk (below_step HB.out hb); have z_ := Aside0.mk hb.size; clear HB; have HB := n_; clear n_; have HZ10 := z_; clear z_
  clear hb
  go_wp2_with fail
  refine (laws_markIntSS.calls _ _ R (1) w _ (by omega) (by have := Tg.out; omega) HB.out OG.out.s).mono ?_
  rintro e w11 ⟨rfl, hs, hb, hk⟩
  have n_ := Aside0.mk (OY0.out.kept hk (fun k h1 h2 h3 => by have := HZ1.out; have := HZ2.out; have := HZ3.out; have := HZ4.out; have := HZ5.out; have := HZ6.out; have := HZ7.out; have := HZ8.out; have := HZ9.out; have := HZ10.out; omega)); clear OY0; have OY0 := n_; clear n_
  have n_ := Aside0.mk (OW.out.kept hk (fun k h1 h2 h3 => by have := HZ1.out; have := HZ2.out; have := HZ3.out; have := HZ4.out; have := HZ5.out; have := HZ6.out; have := HZ7.out; have := HZ8.out; have := HZ9.out; have := HZ10.out; omega)); clear OW; have OW := n_; clear n_
  have n_ := Aside0.mk (OX0.out.kept hk (fun k h1 h2 h3 => by have := HZ1.out; have := HZ2.out; have := HZ3.out; have := HZ4.out; have := HZ5.out; have := HZ6.out; have := HZ7.out; have := HZ8.out; have := HZ9.out; have := HZ10.out; omega)); clear OX0; have OX0 := n_; clear n_
  have n_ := Aside0.mk (OZ0.out.kept hk (fun k h1 h2 h3 => by have := HZ1.out; have := HZ2.out; have := HZ3.out; have := HZ4.out; have := HZ5.out; have := HZ6.out; have := HZ7.out; have := HZ8.out; have := HZ9.out; have := HZ10.out; omega)); clear OZ0; have OZ0 := n_; clear n_
  have n_ := Aside0.mk (OG.out.done hs hk.1); clear OG; have OG := n_; clear n_
  have z_ := Aside0.mk hk.1; clear HB; have HB := Aside0.mk hb; have HZ11 := z_; clear z_ hs hb hk
  go_wp2_with fail
  refine (held_at kh _ _ R _ _ HH.out Lvg.out OG.out.c).mono ?_
  rintro e w12 ⟨rfl, hd⟩
  have hb := hd.below; clear hd
  have n_ := Aside0.mk (OY0.out.step hb); clear OY0; have OY0 := n_; clear n_
  have n_ := Aside0.mk (OW.out.step hb); clear OW; have OW := n_; clear n_
  have n_ := Aside0.mk (OX0.out.step hb); clear OX0; have OX0 := n_; clear n_
  have n_ := Aside0.mk (OG.out.step hb); clear OG; have OG := n_; clear n_
  have n_ := Aside0.mk (OZ0.out.step hb); clear OZ0; have OZ0 := n_; clear n_
  have n_ := Aside0.mk (below_step HB.out hb); have z_ := Aside0.mk hb.size; clear HB; have HB := n_; clear n_; have HZ12 := z_; clear z_
  clear hb
  go_wp2_with fail
  refine (laws_toIntSS.calls kt0 _ _ l0 l0 _ (Kd.C_below HR0.out HB.out) HC0.out HT0.out).mono ?_
  rintro e w13 ⟨u0, rfl, ho0, hb⟩
  have n_ := Aside0.mk (OY0.out.step hb); clear OY0; have OY0 := n_; clear n_
  have n_ := Aside0.mk (OW.out.step hb); clear OW; have OW := n_; clear n_
  have n_ := Aside0.mk (OX0.out.step hb); clear OX0; have OX0 := n_; clear n_
  have n_ := Aside0.mk (OG.out.step hb); clear OG; have OG := n_; clear n_
  have n_ := Aside0.mk (OZ0.out.step hb); clear OZ0; have OZ0 := n_; clear n_
  have OU0 := Aside0.mk (OwnSS.new ho0 HB.out); clear ho0
  have n_ := Aside0.mk (below_step HB.out hb); have z_ := Aside0.mk hb.size; clear HB; have HB := n_; clear n_; have HZ13 := z_; clear z_
  clear hb
  obtain ⟨Au0, cu0, e_, l_u0⟩ := OU0.out.reads; subst e_; have Lu0 := Aside0.mk l_u0; clear l_u0
  go_wp2_with fail
  refine (impl_Uncross.calls kg _ _ l0 R b1 b2 _ OU0.out.c Lu0.out HG.out).mono ?_
  rintro e w14 ⟨vh, rfl, ho0, hb⟩
  have n_ := Aside0.mk (OY0.out.step hb); clear OY0; have OY0 := n_; clear n_
  have n_ := Aside0.mk (OW.out.step hb); clear OW; have OW := n_; clear n_
  have n_ := Aside0.mk (OX0.out.step hb); clear OX0; have OX0 := n_; clear n_
  have n_ := Aside0.mk (OG.out.step hb); clear OG; have OG := n_; clear n_
  have n_ := Aside0.mk (OZ0.out.step hb); clear OZ0; have OZ0 := n_; clear n_
  have n_ := Aside0.mk (OU0.out.step hb); clear OU0; have OU0 := n_; clear n_
  have OH := Aside0.mk (OwnSS.new ho0 HB.out); clear ho0
  have n_ := Aside0.mk (below_step HB.out hb); have z_ := Aside0.mk hb.size; clear HB; have HB := n_; clear n_; have HZ14 := z_; clear z_
  clear hb
  obtain ⟨Avh, cvh, e_, l_vh⟩ := OH.out.reads; subst e_; have Lvh := Aside0.mk l_vh; clear l_vh
  go_wp2_with fail
  refine (laws_eqIntSS.calls ke _ _ R _ _ R true _ OH.out.c Lvh.out OW.out.c Lvw.out HE.out).mono ?_
  rintro e w15 ⟨rfl, hd⟩
  have hb := hd.below; clear hd
  have n_ := Aside0.mk (OY0.out.step hb); clear OY0; have OY0 := n_; clear n_
  have n_ := Aside0.mk (OW.out.step hb); clear OW; have OW := n_; clear n_
  have n_ := Aside0.mk (OX0.out.step hb); clear OX0; have OX0 := n_; clear n_
  have n_ := Aside0.mk (OG.out.step hb); clear OG; have OG := n_; clear n_
  have n_ := Aside0.mk (OZ0.out.step hb); clear OZ0; have OZ0 := n_; clear n_
  have n_ := Aside0.mk (OU0.out.step hb); clear OU0; have OU0 := n_; clear n_
  have n_ := Aside0.mk (OH.out.step hb); clear OH; have OH := n_; clear n_
  have n_ := Aside0.mk (below_step HB.out hb); have z_ := Aside0.mk hb.size; clear HB; have HB := n_; clear n_; have HZ15 := z_; clear z_
  clear hb
  go_wp2_with fail
  refine (held_at kh _ _ R _ _ HH.out Lvg.out OG.out.c).mono ?_
  rintro e w16 ⟨rfl, hd⟩
  have hb := hd.below; clear hd
  have n_ := Aside0.mk (OY0.out.step hb); clear OY0; have OY0 := n_; clear n_
  have n_ := Aside0.mk (OW.out.step hb); clear OW; have OW := n_; clear n_
  have n_ := Aside0.mk (OX0.out.step hb); clear OX0; have OX0 := n_; clear n_
  have n_ := Aside0.mk (OG.out.step hb); clear OG; have OG := n_; clear n_
  have n_ := Aside0.mk (OZ0.out.step hb); clear OZ0; have OZ0 := n_; clear n_
  have n_ := Aside0.mk (OU0.out.step hb); clear OU0; have OU0 := n_; clear n_
  have n_ := Aside0.mk (OH.out.step hb); clear OH; have OH := n_; clear n_
  have n_ := Aside0.mk (below_step HB.out hb); have z_ := Aside0.mk hb.size; clear HB; have HB := n_; clear n_; have HZ16 := z_; clear z_
  clear hb
  go_wp2
  go_ret
  exact ⟨rfl, HB.out⟩
end Go.Proofs.Ytllnieknogficaa.K
namespace Go.Proofs.Ytllnieknogficaa.K
open Go.RowKit Go.Proofs.YtllnieknogficaaW.PrintWords Go.Proofs.YtllnieknogficaaW.PrintLast Go.Proofs.YtllnieknogficaaW.PrintMore
attribute [local go_sem] max2_int min2_int max_two min_two max_three min_three max_four min_four   -- for this text's walks alone
set_option linter.unusedVariables false
set_option linter.unusedSimpArgs false
open Go.ChangeShapes Go.WideShapes Go.ChangeAt Go.Deep
theorem read_int_rows {H : Type} {enc : TypeId × Value → H} {P : Program} {W : World} {t e q : TypeId} {a : Option Addr} {len cap : Nat} {d : DataW H} {ps : List MemPlace} (ht : P.underlying t = some (.slice e)) (he : P.underlying e = some (.slice q)) (hq : P.underlying q = some (.int .i64))
    (ce : P.cellsOf e = 1) (cq : P.cellsOf q = 1) (h : DataW.Trod enc P W 0 (fun _ => true) true t (.slice a len cap) d ps) :
    ∃ l : List (List Int), len = l.length ∧ Kd.C (Kd.slice 3 (Kd.int .i64)) W a l.length l ∧ l.length ≤ cap ∧ ∀ r ∈ l, r.length ≤ 9223372036854775807 := by
  obtain ⟨fuel, hf⟩ := h
  rcases open_int_rows ht he hq ce cq hf with ⟨hcs, _⟩ | ⟨x, l, c, A, L, C, Z, hcs, _, hl, hm, _, hrows⟩
  · simp [Value.cells] at hcs
    obtain ⟨rfl, rfl, rfl⟩ := hcs
    exact ⟨[], rfl, Kd.C_nil _ _, Nat.le_refl _, fun r hr => by simp at hr⟩
  · simp [Value.cells] at hcs
    obtain ⟨rfl, rfl, rfl⟩ := hcs
    have hmx : maxLen = 9223372036854775807 := rfl
    have hlen : ((List.range len).map fun r => (Z r).take (L r)).length = len := by simp
    have hzl : ∀ r, r < cap → ((Z r).take (L r)).length = L r := fun r hr => by
      obtain ⟨_, h1, _, h2, _⟩ := hrows r hr
      rw [List.length_take]
      omega
    refine ⟨(List.range len).map fun r => (Z r).take (L r), hlen.symm, ⟨rfl, by rw [hlen]; omega, fun hp => ⟨x, rfl, fun j p hj => ?_⟩⟩, by rw [hlen]; exact hl, fun r hr => ?_⟩
    · obtain ⟨hjl, hp2⟩ := List.getElem?_eq_some_iff.1 hj
      rw [hlen] at hjl
      obtain ⟨hcell, h1, h2, h3, _, h5, h6⟩ := hrows j (by omega)
      have hp3 : p = (Z j).take (L j) := by rw [← hp2]; simp
      subst hp3
      have hzj := hzl j (by omega)
      refine ⟨[.slice (A j) (L j) (C j)], rfl, ⟨A j, C j, by rw [hzj], by rw [hzj]; exact h1, ⟨rfl, by rw [hzj]; omega, fun hp => ?_⟩⟩, fun i u hu => ?_⟩
      · cases hA : A j with
        | none => rw [hzj] at hp; have := h5 hA; omega
        | some a' =>
          refine ⟨a', rfl, fun i p hi => ⟨[.int .i64 p], rfl, rfl, fun i2 u hu => ?_⟩⟩
          obtain ⟨hil, hpi⟩ := List.getElem?_eq_some_iff.1 hi
          rw [hzj] at hil
          have hcc := (h6 a' hA).2 i (by omega)
          have hi2 : i2 = 0 := by
            have := (List.getElem?_eq_some_iff.1 hu).1
            simpa using this
          subst hi2
          simp at hu
          subst hu
          show W.cell? (a'.add (i * 1 + 0)) = _
          rw [Nat.mul_one, Nat.add_zero, hcc, ← hpi]
          rw [List.getD_eq_getElem?_getD, List.getElem?_eq_getElem (by omega)]
          simp
      · have hi2 : i = 0 := by
          have := (List.getElem?_eq_some_iff.1 hu).1
          simpa using this
        subst hi2
        simp at hu
        subst hu
        show W.cell? (x.add (j * 1 + 0)) = _
        rw [Nat.mul_one, Nat.add_zero, hcell]
    · simp only [List.mem_map, List.mem_range] at hr
      obtain ⟨j, hj, rfl⟩ := hr
      obtain ⟨_, h1, h2, _⟩ := hrows j (by omega)
      rw [hzl j (by omega)]
      omega
end Go.Proofs.Ytllnieknogficaa.K
