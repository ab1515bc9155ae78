/-
Part 1 of the proof of the law FnExactUncross: what the Go functions that it reaches come to, each proved of the given program; no condition beside those that each theorem names.
-/
import Derived.Test.YtllnieknogficaaProg
import Derived.Below
import Derived.Deep.Draws
import Derived.Deep.AppendLies
import Derived.Maps.AppendAt
import Derived.OwnWalk
import Derived.Laws.BytesArg
import Derived.Laws.MakeOwn
import Derived.Laws.OwnMore
import Derived.Deep.OwnRows
import Derived.Tactics
import Derived.Lib.ConvBytes
import Derived.Laws.Slices
import Derived.WalkKit
import Derived.KernelRfl
import Derived.RowKit3
import Derived.Deep.LoopGhost
import Derived.Deep.QuietTactic
import Derived.BigQuiet
import Derived.WideLaws
import Derived.Deep.DeepCutAuto
import Derived.Deep.CutBlock
import Derived.Deep.RegionHeld3
import Derived.Laws.Rows
import Derived.Lib.AppendStr
import Derived.ArgAppend
import Derived.Laws.IdiomCopy
import Derived.OrdersHeld
import Derived.Laws.BitsLemmas
import Derived.RowKit
import Derived.Shelf.Abstract
import Derived.Test.YtllnieknogficaaWWords
import Derived.Test.YtllnieknogficaaWLast
import Derived.Test.YtllnieknogficaaWTab
import Derived.Test.YtllnieknogficaaWFour
import Derived.Test.YtllnieknogficaaWQPut
import Derived.Test.YtllnieknogficaaWApart
import Derived.Test.YtllnieknogficaaWArr
import Derived.Test.YtllnieknogficaaWZeros
import Derived.Test.YtllnieknogficaaWFoot
import Derived.Test.YtllnieknogficaaWKept
import Derived.Test.YtllnieknogficaaWShare
import Derived.Test.YtllnieknogficaaWN
import Derived.Test.YtllnieknogficaaWFootNe
import Derived.Test.YtllnieknogficaaWAt
import Derived.Test.YtllnieknogficaaWEqStruct
import Derived.Test.YtllnieknogficaaWRepsOne
import Derived.Test.YtllnieknogficaaWInv
import Derived.Test.YtllnieknogficaaWInvWords
import Derived.Test.YtllnieknogficaaWGuard
import Derived.Test.YtllnieknogficaaWNEv
import Derived.Test.YtllnieknogficaaWMore
namespace Go.Proofs.Ytllnieknogficaa.K
open Go.RowKit Go.Proofs.YtllnieknogficaaW.PrintWords Go.Proofs.YtllnieknogficaaW.PrintLast Go.Proofs.YtllnieknogficaaW.PrintMore
attribute [local go_sem] max2_int min2_int max_two min_two max_three min_three max_four min_four   -- for this text's walks alone
set_option linter.unusedVariables false
set_option linter.unusedSimpArgs false



def errW : Option Int → Value
  | none => .nilIface
  | some c => .iface 0 (.int .i64 c)
theorem errW_none : errW none = .nilIface := rfl
theorem errW_some (c : Int) : errW (some c) = .iface 0 (.int .i64 c) := rfl

theorem info3 : (Try.prog.info? 3).map (fun i => (i.zero, i.size, i.bytes)) = some (some (.int .i64 0), 1, 8) := by kernel_rfl
theorem info24 : (Try.prog.info? 24).map (fun i => (i.zero, i.size, i.bytes)) = some (some (.slice none 0 0), 1, 24) := by kernel_rfl
theorem info70 : (Try.prog.info? 70).map (fun i => (i.zero, i.size, i.bytes)) = some (some (.agg #[(.int .i64 0), (.int .i64 0)]), 2, 16) := by kernel_rfl
-- the values' own types
def rd_L2 (xs : List (List Int)) (i : Int) : (List Int) := xs.getD i.toNat ([] : List Int)
theorem at_L2 {w : World} {A : Option Addr} {n : Nat} {xs : List (List Int)} (h : Kd.C (Kd.slice 3 (Kd.int .i64)) w A n xs) (i : Int) (h0 : 0 ≤ i) (h1 : i < n) : ∃ ad A0 c0, A = some ad ∧ w.cell? (ad.add i.toNat) = some (.slice A0 (rd_L2 xs i).length c0) ∧ (rd_L2 xs i).length ≤ c0 ∧ (Kd.int .i64).C w A0 (rd_L2 xs i).length (rd_L2 xs i) := by
  obtain ⟨ad, c, e, _, hK, hc0⟩ := Kd.C_get h ([] : List Int) i h0 h1
  have hc : ∀ j u, c[j]? = some u → w.cell? (ad.add (i.toNat * 1 + j)) = some u := hc0
  obtain ⟨A0, c0, rfl, l0, g0⟩ := hK
  exact ⟨ad, A0, c0, e, by have hq := hc 0 _ rfl; rwa [Nat.mul_one, Nat.add_zero] at hq, l0, g0⟩

def rd_L3 (xs : List (List (List Int))) (i : Int) : (List (List Int)) := xs.getD i.toNat ([] : List (List Int))
theorem at_L3 {w : World} {A : Option Addr} {n : Nat} {xs : List (List (List Int))} (h : Kd.C (Kd.slice 24 (Kd.slice 3 (Kd.int .i64))) w A n xs) (i : Int) (h0 : 0 ≤ i) (h1 : i < n) : ∃ ad A0 c0, A = some ad ∧ w.cell? (ad.add i.toNat) = some (.slice A0 (rd_L3 xs i).length c0) ∧ (rd_L3 xs i).length ≤ c0 ∧ (Kd.slice 3 (Kd.int .i64)).C w A0 (rd_L3 xs i).length (rd_L3 xs i) := by
  obtain ⟨ad, c, e, _, hK, hc0⟩ := Kd.C_get h ([] : List (List Int)) i h0 h1
  have hc : ∀ j u, c[j]? = some u → w.cell? (ad.add (i.toNat * 1 + j)) = some u := hc0
  obtain ⟨A0, c0, rfl, l0, g0⟩ := hK
  exact ⟨ad, A0, c0, e, by have hq := hc 0 _ rfl; rwa [Nat.mul_one, Nat.add_zero] at hq, l0, g0⟩

/-! #### struct type 52 -/
structure S52 where
  f0 : Int
  f1 : Int
  f2 : Int
def z52 : S52 := ⟨(0 : Int), (0 : Int), (0 : Int)⟩
def k52 : Kd S52 := Kd.iso (Kd.pair (Kd.int .i64) (Kd.pair (Kd.int .i64) (Kd.int .i64))) (fun x : S52 => (x.f0, x.f1, x.f2))
theorem k52_open {w : World} {x : S52} {cs : List Value} (h : k52.K w x cs) : cs = [.int .i64 x.f0, .int .i64 x.f1, .int .i64 x.f2] := by
  obtain ⟨_, _, rfl, rfl, ⟨_, _, rfl, rfl, rfl⟩⟩ := h
  exact rfl
theorem k52_openM {w : World} {base : Nat} {ok : Nat → Prop} {x : S52} {cs : List Value} (h : k52.M w base ok x cs) : cs = [.int .i64 x.f0, .int .i64 x.f1, .int .i64 x.f2] := by
  obtain ⟨_, _, rfl, rfl, ⟨_, _, rfl, rfl, rfl⟩⟩ := h
  exact rfl
theorem k52_mk (w : World) (x : S52)  : k52.K w x [.int .i64 x.f0, .int .i64 x.f1, .int .i64 x.f2] := ⟨[.int .i64 x.f0], [.int .i64 x.f1, .int .i64 x.f2], rfl, rfl, ⟨[.int .i64 x.f1], [.int .i64 x.f2], rfl, rfl, rfl⟩⟩
theorem k52_mkM (w : World) (base : Nat) (ok : Nat → Prop) (x : S52)  : k52.M w base ok x [.int .i64 x.f0, .int .i64 x.f1, .int .i64 x.f2] := ⟨[.int .i64 x.f0], [.int .i64 x.f1, .int .i64 x.f2], rfl, rfl, ⟨[.int .i64 x.f1], [.int .i64 x.f2], rfl, rfl, rfl⟩⟩
theorem k52_mkF (W : World) (ok : Nat → Prop) (x : S52) : Kd.FK k52 W ok x [.int .i64 x.f0, .int .i64 x.f1, .int .i64 x.f2] := fun W2 _ => k52_mk W2 x
def rd_T52 (xs : List S52) (i : Int) : S52 := xs.getD i.toNat z52
theorem at_T52 {w : World} {A : Option Addr} {n : Nat} {xs : List S52} (h : Kd.C k52 w A n xs) (i : Int) (h0 : 0 ≤ i) (h1 : i < n) : ∃ ad , A = some ad ∧ w.cell? (ad.add (i.toNat * 3)) = some (.int .i64 (rd_T52 xs i).f0) ∧ w.cell? ⟨(ad.add (i.toNat * 3)).block, (ad.add (i.toNat * 3)).off + 1, none⟩ = some (.int .i64 (rd_T52 xs i).f1) ∧ w.cell? ⟨(ad.add (i.toNat * 3)).block, (ad.add (i.toNat * 3)).off + 2, none⟩ = some (.int .i64 (rd_T52 xs i).f2) := by
  obtain ⟨ad, c, e, _, hK, hc0⟩ := Kd.C_get h z52 i h0 h1
  have hc : ∀ j u, c[j]? = some u → w.cell? (ad.add (i.toNat * 3 + j)) = some u := hc0
  obtain rfl := k52_open hK
  exact ⟨ad, e, hc 0 _ rfl, by rw [← add_field _ _ 1 (by omega)]; exact hc 1 _ rfl, by rw [← add_field _ _ 2 (by omega)]; exact hc 2 _ rfl⟩

/-! #### struct type 70 -/
structure S70 where
  f0 : Int
  f1 : Int
def z70 : S70 := ⟨(0 : Int), (0 : Int)⟩
def k70 : Kd S70 := Kd.iso (Kd.pair (Kd.int .i64) (Kd.int .i64)) (fun x : S70 => (x.f0, x.f1))
theorem k70_open {w : World} {x : S70} {cs : List Value} (h : k70.K w x cs) : cs = [.int .i64 x.f0, .int .i64 x.f1] := by
  obtain ⟨_, _, rfl, rfl, rfl⟩ := h
  exact rfl
theorem k70_openM {w : World} {base : Nat} {ok : Nat → Prop} {x : S70} {cs : List Value} (h : k70.M w base ok x cs) : cs = [.int .i64 x.f0, .int .i64 x.f1] := by
  obtain ⟨_, _, rfl, rfl, rfl⟩ := h
  exact rfl
theorem k70_mk (w : World) (x : S70)  : k70.K w x [.int .i64 x.f0, .int .i64 x.f1] := ⟨[.int .i64 x.f0], [.int .i64 x.f1], rfl, rfl, rfl⟩
theorem k70_mkM (w : World) (base : Nat) (ok : Nat → Prop) (x : S70)  : k70.M w base ok x [.int .i64 x.f0, .int .i64 x.f1] := ⟨[.int .i64 x.f0], [.int .i64 x.f1], rfl, rfl, rfl⟩
theorem k70_mkF (W : World) (ok : Nat → Prop) (x : S70) : Kd.FK k70 W ok x [.int .i64 x.f0, .int .i64 x.f1] := fun W2 _ => k70_mk W2 x
def rd_T70 (xs : List S70) (i : Int) : S70 := xs.getD i.toNat z70
theorem at_T70 {w : World} {A : Option Addr} {n : Nat} {xs : List S70} (h : Kd.C k70 w A n xs) (i : Int) (h0 : 0 ≤ i) (h1 : i < n) : ∃ ad , A = some ad ∧ w.cell? (ad.add (i.toNat * 2)) = some (.int .i64 (rd_T70 xs i).f0) ∧ w.cell? ⟨(ad.add (i.toNat * 2)).block, (ad.add (i.toNat * 2)).off + 1, none⟩ = some (.int .i64 (rd_T70 xs i).f1) := by
  obtain ⟨ad, c, e, _, hK, hc0⟩ := Kd.C_get h z70 i h0 h1
  have hc : ∀ j u, c[j]? = some u → w.cell? (ad.add (i.toNat * 2 + j)) = some u := hc0
  obtain rfl := k70_open hK
  exact ⟨ad, e, hc 0 _ rfl, by rw [← add_field _ _ 1 (by omega)]; exact hc 1 _ rfl⟩

end Go.Proofs.Ytllnieknogficaa.K
namespace Go.Proofs.Ytllnieknogficaa.K
open Go.RowKit Go.Proofs.YtllnieknogficaaW.PrintWords Go.Proofs.YtllnieknogficaaW.PrintLast Go.Proofs.YtllnieknogficaaW.PrintMore
attribute [local go_sem] max2_int min2_int max_two min_two max_three min_three max_four min_four   -- for this text's walks alone
set_option linter.unusedVariables false
set_option linter.unusedSimpArgs false
theorem ev_succ {α : Type} {g : Nat → Option α} {r : α} (h : Ev (fun k => g (k + 1)) r) : Ev g r := Ev.step (fun _ => rfl) h
theorem ev_some {α : Type} (g : Option α) {r : α} (h : g = some r) : Ev (fun _ => g) r := ⟨0, fun _ _ => h⟩
theorem ev_now {α : Type} (r r' : α) (h : r = r') : Ev (fun _ => some r) r' := ⟨0, fun _ _ => by rw [h]⟩
theorem wrap64_id {x : Int} (h0 : -9223372036854775808 ≤ x) (h1 : x ≤ 9223372036854775807) : wrap64 x = x := by unfold wrap64; omega
theorem wrap64_nat_succ {i : Nat} (h : i < 9223372036854775807) : wrap64 ((i : Int) + 1) = ((i + 1 : Nat) : Int) := by unfold wrap64; omega
theorem rd_nat (l : List Int) (i : Nat) (h : i < l.length) : rd l (i : Int) = l[i] := by unfold rd; simp [h]
theorem rdL_nat (l : List (List Int)) (i : Nat) (h : i < l.length) : rd_L2 l (i : Int) = l[i] := by unfold rd_L2; simp [h]
theorem rd_nat_getD (l : List Int) (i : Nat) : rd l (i : Int) = l.getD i 0 := by unfold rd; simp
theorem rdL_nat_getD (l : List (List Int)) (i : Nat) : rd_L2 l (i : Int) = l.getD i [] := by unfold rd_L2; simp
end Go.Proofs.Ytllnieknogficaa.K
namespace Go.Proofs.Ytllnieknogficaa.K
open Go.RowKit Go.Proofs.YtllnieknogficaaW.PrintWords Go.Proofs.YtllnieknogficaaW.PrintLast Go.Proofs.YtllnieknogficaaW.PrintMore
attribute [local go_sem] max2_int min2_int max_two min_two max_three min_three max_four min_four   -- for this text's walks alone
set_option linter.unusedVariables false
set_option linter.unusedSimpArgs false

/-! ### laws_markIntS: function 46 -/
def laws_markIntS.l0 : Nat → List Int → Int → Int → Option (Int × List Int)
  | 0, _, _, _ => none
  | k + 1, x0, x1, x5 => if x5 < (x0.length : Int) then (if 0 ≤ x5 then (laws_markIntS.l0 k (x0.set (x5 : Int).toNat x1) (wrap64 (x1 + 1)) (wrap64 (x5 + 1))) else (none)) else (some (x1, x0))
def laws_markIntS.f (k : Nat) (l0 : List Int) (a1 : Int) : Option (Int × List Int) := laws_markIntS.l0 k l0 a1 0
theorem laws_markIntS.mono_l : ∀ k, (∀ y0 y1 y2, LeO (laws_markIntS.l0 k y0 y1 y2) (laws_markIntS.l0 (k + 1) y0 y1 y2))
  | 0 => fun _ _ _ r h => by simp [laws_markIntS.l0] at h
  | k + 1 => by
    have ih0 := laws_markIntS.mono_l k
    · intro y0 y1 y2
      unfold laws_markIntS.l0
      repeat' first
      | (with_reducible exact ih0 _ _ _)
      | (with_reducible exact LeO.refl _)
      | (with_reducible exact LeO.none _)
      | (with_reducible refine LeO.ite ?_ ?_)
      | (with_reducible refine LeO.bind ?_ (fun _ => ?_))
      | exact ih0 _ _ _
      | exact LeO.none _
      | refine LeO.ite ?_ ?_
      | refine LeO.bind ?_ (fun _ => ?_)
theorem laws_markIntS.mono : ∀ a0 a1 k, LeO (laws_markIntS.f k a0 a1) (laws_markIntS.f (k + 1) a0 a1) := by
  intro a0 a1 k
  have ih0 := laws_markIntS.mono_l k
  unfold laws_markIntS.f
  repeat' first
      | (with_reducible exact ih0 _ _ _)
      | (with_reducible exact LeO.refl _)
      | (with_reducible exact LeO.none _)
      | (with_reducible refine LeO.ite ?_ ?_)
      | (with_reducible refine LeO.bind ?_ (fun _ => ?_))
      | exact ih0 _ _ _
      | exact LeO.none _
      | refine LeO.ite ?_ ?_
      | refine LeO.bind ?_ (fun _ => ?_)
set_option maxHeartbeats 8000000 in
set_option maxRecDepth 100000 in
theorem laws_markIntS.calls (k : Nat) (P0_ : Nat → Prop) (u9000_ : Value) (l0 : List Int) (a1 : Int) (r1 : Int) (r2 : List Int) (w0 w : World) (hB : Below w0.heap.size w0 w) (ho0 : Kd.R (Kd.int .i64) 3 w w0.heap.size P0_ u9000_ l0) (h : laws_markIntS.f k l0 a1 = some (r1, r2)) :
    Calls Try.prog 46 #[u9000_, .int .i64 a1] w fun e w' => e = .returned (.int .i64 r1) ∧ Kd.R (Kd.int .i64) 3 w' w0.heap.size (fun k_ => (P0_ k_ ∨ w.heap.size ≤ k_)) u9000_ r2 ∧ Below w0.heap.size w0 w' ∧ Kept w w' (fun k_ => P0_ k_) := by
  have HO0 := Aside0.mk (show Kd.R (Kd.int .i64) 3 w w0.heap.size (fun k_ => (P0_ k_ ∨ w.heap.size ≤ k_)) u9000_ l0 from Kd.R_mono ho0 (fun k_ hk => (.inl hk)))
  have HK := Aside0.mk (Kept.refl w (fun k_ => P0_ k_))
  have HW0 := Aside0.mk hB.size
  have HB := Aside0.mk hB
  clear hB
  have H : (laws_markIntS.l0 k l0 a1 0) = some (r1, r2) := h
  clear h
  have H' := Aside0.mk H
  clear H
  go_enter Try.func46, Try.ntmps46
  go_wp2
  go_loopg [1, 5] k (fun kq v1 v5 w' => ∃ (x0_1 : List Int) (x1_1 : Int) (x5_1 : Int), v1 = .int .i64 x1_1 ∧ v5 = .int .i64 x5_1 ∧ Aside0 (laws_markIntS.l0 kq x0_1 x1_1 x5_1 = some (r1, r2)) ∧ Aside0 (kq ≤ k) ∧ Aside0 (Kd.R (Kd.int .i64) 3 w' w0.heap.size (fun k_ => (P0_ k_ ∨ w.heap.size ≤ k_)) u9000_ x0_1) ∧ Aside0 (Kept w w' (fun k_ => P0_ k_)) ∧ Aside0 (Below w0.heap.size w0 w'))
  case atStart => exact ⟨(l0), (a1), (0), (by first | rfl | (simp; done) | (simp [*]; done)), (by first | rfl | (simp; done) | (simp [*]; done)), H', ⟨Nat.le_refl _⟩, ⟨by (with_reducible repeat (first | apply Kd.R_alloc | apply Kd.R_drewN | apply Kd.R_drew)); exact HO0.out⟩, ⟨by repeat (first | (with_reducible first | exact HK.out | apply Kept.alloc | apply Kept.drewN | apply Kept.drew) | exact HK.out)⟩, ⟨by repeat (first | (with_reducible first | exact HB.out | apply below_alloc | apply pw_below_drewN | apply below_drew1) | exact HB.out)⟩⟩
  case round =>
    clear H'
    try clear p2
    obtain ⟨x0_1, x1_1, x5_1, rfl, rfl, HA, HK1, HO_0, HK, HB⟩ := hrel
    cases gk with
    | zero => exact absurd HA.out (by simp [laws_markIntS.l0])
    | succ k1 =>
      have H := HA.out
      clear HA
      simp only [laws_markIntS.l0] at H
      by_cases c3 : x5_1 < (x0_1.length : Int)
      · rw [if_pos c3] at H
        have c3b0 : decide (x5_1 < (x0_1.length : Int)) = true := decide_eq_true c3
        clear c3
        by_cases c4 : 0 ≤ x5_1
        · rw [if_pos c4] at H
          have c4b0 : decide (0 ≤ x5_1) = true := decide_eq_true c4
          clear c4
          obtain ⟨y430, hy430⟩ : ∃ y_ : List Int, y_ = (x0_1.set (x5_1 : Int).toNat x1_1) := ⟨_, rfl⟩
          replace H : (laws_markIntS.l0 k1 y430 (wrap64 (x1_1 + 1)) (wrap64 (x5_1 + 1))) = some (r1, r2) := by first | (rw [hy430]; with_reducible exact H) | (have H2_ := (Option.bind_some _ _).symm.trans H; rw [hy430]; with_reducible exact H2_) | (have H2_ := (Option.bind_some _ _).symm.trans H; with_reducible exact H2_) | with_reducible exact H | (rw [hy430]; exact H) | exact H
          have Ny430 := Aside0.mk hy430
          clear hy430
          have H' := Aside0.mk H
          clear H
          obtain ⟨Ao6, co6, eo6⟩ := Kd.R_slice HO_0.out
          subst eo6
          have p5 : 0 ≤ (x5_1 : Int) := of_decide_eq_true (by first | (with_reducible assumption) | assumption)
          have q5 : (x5_1 : Int) < ((x0_1.length : Int) : Int) := of_decide_eq_true (by first | (with_reducible assumption) | assumption)
          obtain ⟨go5, co5, eo5, gb5, gl5, cl5, HG5⟩ := Kd.R_form HO_0.out (by omega)
          (first | cases eo5 | (injection eo5 with ea_ en_ ec_; (first | subst ea_ | (injection ea_ with ea_; subst ea_)); subst ec_; clear en_))
          have GB5 := Aside0.mk gb5
          have GG5 := Aside0.mk HG5
          clear gb5 gl5 HG5
          have HMgo5 := Aside0.mk (show (P0_ go5 ∨ w.heap.size ≤ go5) from (HO_0.out.1 _ rfl))
          obtain ⟨hx5_0, hf5_0⟩ := Kd.R_celln 0 HO_0.out (x5_1 : Int) p5 q5
          replace p5 := eq_true p5
          replace q5 := eq_true q5
          have HP7 := Kd.R_putg HO_0.out (x5_1 : Int) x1_1
          go_wp2_with (first | ((with_reducible refine gate_store (t := 3) (p := 15) rfl ?_); refine store_event (t := 3) (p := 15) (v := ?vo_w8) (w1 := (wr.setCell ⟨go5, (x5_1 : Int).toNat, none⟩ (.int .i64 x1_1))) ?hg ?ho ?hn ?hr ?_; (case ho => rfl); (case hg => rfl); (case hn => rfl); (case hr => first | (go_simp; done) | (go_simp; rfl)); intro w8 hw; have hg : wr.grownBy w8 (some go5) := (by rw [hw]; exact HP7.2); have hp_ : Kd.R (Kd.int .i64) 3 w8 w0.heap.size (fun k_ => (P0_ k_ ∨ w.heap.size ≤ k_)) (.slice (some ⟨go5, 0, none⟩) x0_1.length co6) y430 := (by rw [hw, Ny430.out]; exact HP7.1); clear HP7; have n0_ := Aside0.mk (hp_); have n1_ := Aside0.mk ((by rw [hw]; exact below_set (HB.out) GB5.out : Below w0.heap.size w0 w8)); have n2_ := Aside0.mk (Kept.of_grown (S := (fun k_ => P0_ k_)) hg (by repeat (first | (with_reducible first | exact HK.out | apply Kept.alloc | apply Kept.drewN | apply Kept.drew) | exact HK.out)) (fun k_ e_ => (HO_0.out.1 k_ e_))); clear HO_0; clear HB; clear HK; have HO_0 := n0_; have HB := n1_; have HK := n2_; clear n0_ n1_ n2_; clear hg hw hp_))
          go_roundg k1
          case measure => have := HK1.out; omega
          case rel => exact ⟨(y430), (wrap64 (x1_1 + 1)), (wrap64 (x5_1 + 1)), (by first | rfl | (simp; done) | (simp [*]; done)), (by first | rfl | (simp; done) | (simp [*]; done)), H', ⟨by have := HK1.out; omega⟩, ⟨by (with_reducible repeat (first | apply Kd.R_alloc | apply Kd.R_drewN | apply Kd.R_drew)); exact HO_0.out⟩, ⟨by repeat (first | (with_reducible first | exact HK.out | apply Kept.alloc | apply Kept.drewN | apply Kept.drew) | exact HK.out)⟩, ⟨by repeat (first | (with_reducible first | exact HB.out | apply below_alloc | apply pw_below_drewN | apply below_drew1) | exact HB.out)⟩⟩
        · rw [if_neg c4] at H
          exact absurd H (by simp)
      · rw [if_neg c3] at H
        have c3b0 : decide (x5_1 < (x0_1.length : Int)) = false := decide_eq_false c3
        clear c3
        simp only [Option.some.injEq, Prod.mk.injEq] at H
        obtain ⟨rfl, rfl⟩ := H
        obtain ⟨Ao9, co9, eo9⟩ := Kd.R_slice HO_0.out
        subst eo9
        go_wp2
        go_ret
        exact ⟨by first | rfl | (simp [errW_none, errW_some] <;> rfl) | (simp [*, errW_none, errW_some] <;> rfl), by (with_reducible repeat (first | apply Kd.R_alloc | apply Kd.R_drewN | apply Kd.R_drew)); exact HO_0.out, by repeat (first | (with_reducible first | exact HB.out | apply below_alloc | apply pw_below_drewN | apply below_drew1) | exact HB.out), by repeat (first | (with_reducible first | exact HK.out | apply Kept.alloc | apply Kept.drewN | apply Kept.drew) | exact HK.out)⟩

end Go.Proofs.Ytllnieknogficaa.K
namespace Go.Proofs.Ytllnieknogficaa.K
open Go.RowKit Go.Proofs.YtllnieknogficaaW.PrintWords Go.Proofs.YtllnieknogficaaW.PrintLast Go.Proofs.YtllnieknogficaaW.PrintMore
attribute [local go_sem] max2_int min2_int max_two min_two max_three min_three max_four min_four   -- for this text's walks alone
set_option linter.unusedVariables false
set_option linter.unusedSimpArgs false

/-! ### laws_markIntSS: function 39 -/
def laws_markIntSS.row (k : Int) (n : Nat) : List Int := (List.range n).map fun (i : Nat) => k + (i : Int)
def laws_markIntSS.rows : Int → List (List Int) → List (List Int)
  | _, [] => []
  | k, r :: t => laws_markIntSS.row k r.length :: laws_markIntSS.rows (k + (r.length : Int)) t
def laws_markIntSS.tot : List (List Int) → Nat
  | [] => 0
  | r :: t => r.length + laws_markIntSS.tot t
theorem laws_markIntSS.row_length (k : Int) (n : Nat) : (laws_markIntSS.row k n).length = n := by simp [laws_markIntSS.row]
/-- markIntS, from place i on. -/
theorem laws_markIntSS.marks (l : List Int) (a : Int) (h0 : 0 ≤ a) (hl : a + (l.length : Int) ≤ 4611686018427387904) : ∀ d k (i : Nat), i ≤ l.length → l.length - i = d → d < k →
    laws_markIntS.l0 k (laws_markIntSS.row a i ++ l.drop i) (a + (i : Int)) (i : Int) = some (a + (l.length : Int), laws_markIntSS.row a l.length) := by
  intro d
  induction d with
  | zero =>
    intro k i hi hd hk
    obtain ⟨k, rfl⟩ : ∃ m, k = m + 1 := ⟨k - 1, by omega⟩
    have : i = l.length := by omega
    subst this
    simp only [laws_markIntS.l0]
    rw [if_neg (by simp [laws_markIntSS.row_length])]
    simp
  | succ d ih =>
    intro k i hi hd hk
    obtain ⟨k, rfl⟩ : ∃ m, k = m + 1 := ⟨k - 1, by omega⟩
    have hlt : i < l.length := by omega
    simp only [laws_markIntS.l0]
    rw [if_pos (by simp [laws_markIntSS.row_length]; omega), if_pos (by omega)]
    have hw : wrap64 ((i : Int) + 1) = ((i + 1 : Nat) : Int) := by unfold wrap64; omega
    have hw2 : wrap64 (a + (i : Int) + 1) = a + ((i + 1 : Nat) : Int) := by unfold wrap64; omega
    have hs : (laws_markIntSS.row a i ++ l.drop i).set (i : Int).toNat (a + (i : Int)) = laws_markIntSS.row a (i + 1) ++ l.drop (i + 1) := by
      rw [Int.toNat_natCast, List.set_append_right _ _ (by rw [laws_markIntSS.row_length]; omega), laws_markIntSS.row_length, Nat.sub_self, List.drop_eq_getElem_cons hlt, List.set_cons_zero]
      unfold laws_markIntSS.row
      rw [List.range_succ, List.map_append, List.append_assoc]
      rfl
    rw [hw, hw2, hs]
    exact ih k (i + 1) (by omega) (by omega) (by omega)
theorem laws_markIntSS.mark (l : List Int) (a : Int) (h0 : 0 ≤ a) (hl : a + (l.length : Int) ≤ 4611686018427387904) :
    laws_markIntS.f (l.length + 1) l a = some (a + (l.length : Int), laws_markIntSS.row a l.length) := by
  have h := laws_markIntSS.marks l a h0 hl l.length (l.length + 1) 0 (by omega) (by omega) (by omega)
  simpa [laws_markIntS.f, laws_markIntSS.row] using h
theorem laws_markIntSS.tot_append (a b : List (List Int)) : laws_markIntSS.tot (a ++ b) = laws_markIntSS.tot a + laws_markIntSS.tot b := by
  induction a with
  | nil => simp [laws_markIntSS.tot]
  | cons r t ih => simp [laws_markIntSS.tot, ih]; omega
theorem laws_markIntSS.rows_append (a b : List (List Int)) : ∀ k, laws_markIntSS.rows k (a ++ b) = laws_markIntSS.rows k a ++ laws_markIntSS.rows (k + (laws_markIntSS.tot a : Int)) b := by
  induction a with
  | nil => intro k; simp [laws_markIntSS.rows, laws_markIntSS.tot]
  | cons r t ih =>
    intro k
    simp only [List.cons_append, laws_markIntSS.rows, laws_markIntSS.tot]
    rw [ih]
    congr 3
    push_cast
    omega
theorem laws_markIntSS.rows_length : ∀ (l : List (List Int)) k, (laws_markIntSS.rows k l).length = l.length
  | [], _ => rfl
  | _ :: t, _ => by simp [laws_markIntSS.rows, laws_markIntSS.rows_length t]
/-- What stands in memory behind i rounds. -/
def laws_markIntSS.upto (a : Int) (l : List (List Int)) (i : Nat) : List (List Int) := laws_markIntSS.rows a (l.take i) ++ l.drop i
theorem laws_markIntSS.upto_length (a : Int) (l : List (List Int)) (i : Nat) : (laws_markIntSS.upto a l i).length = l.length := by
  simp [laws_markIntSS.upto, laws_markIntSS.rows_length]; omega
theorem laws_markIntSS.upto_at (a : Int) (l : List (List Int)) (i : Nat) (h : i < l.length) : (laws_markIntSS.upto a l i).getD i [] = l[i] := by
  have hl : (laws_markIntSS.rows a (l.take i)).length = i := by rw [laws_markIntSS.rows_length, List.length_take]; omega
  rw [List.getD_eq_getElem?_getD, laws_markIntSS.upto, List.getElem?_append_right (by omega), hl, Nat.sub_self, List.getElem?_drop]
  simp [h]
theorem laws_markIntSS.upto_set (a : Int) (l : List (List Int)) (i : Nat) (h : i < l.length) : (laws_markIntSS.upto a l i).set i (laws_markIntSS.row (a + (laws_markIntSS.tot (l.take i) : Int)) l[i].length) = laws_markIntSS.upto a l (i + 1) := by
  have hl : (laws_markIntSS.rows a (l.take i)).length = i := by rw [laws_markIntSS.rows_length, List.length_take]; omega
  rw [laws_markIntSS.upto, List.set_append_right _ _ (by omega), hl, Nat.sub_self, List.drop_eq_getElem_cons h, List.set_cons_zero, laws_markIntSS.upto, List.take_succ_eq_append_getElem h, laws_markIntSS.rows_append, List.append_assoc]
  rfl
theorem laws_markIntSS.tot_take (l : List (List Int)) (i : Nat) (h : i < l.length) : laws_markIntSS.tot (l.take (i + 1)) = laws_markIntSS.tot (l.take i) + l[i].length := by
  rw [List.take_succ_eq_append_getElem h, laws_markIntSS.tot_append]; simp [laws_markIntSS.tot]
theorem laws_markIntSS.tot_le (l : List (List Int)) (i : Nat) : laws_markIntSS.tot (l.take i) ≤ laws_markIntSS.tot l := by
  have := laws_markIntSS.tot_append (l.take i) (l.drop i)
  rw [List.take_append_drop] at this
  omega
set_option maxHeartbeats 1000000 in
set_option maxRecDepth 100000 in
theorem laws_markIntSS.calls (P0_ : Nat → Prop) (u : Value) (l0 : List (List Int)) (a1 : Int) (w0 w : World) (h0 : 0 ≤ a1) (hk : a1 + (laws_markIntSS.tot l0 : Int) ≤ 4611686018427387904) (hB : Below w0.heap.size w0 w) (ho0 : Kd.S (Kd.slice 3 (Kd.int .i64)) 24 w w0.heap.size P0_ u l0) :
    Calls Try.prog 39 #[u, .int .i64 a1] w fun e w' => e = .returned (.int .i64 (a1 + (laws_markIntSS.tot l0 : Int))) ∧ Kd.S (Kd.slice 3 (Kd.int .i64)) 24 w' w0.heap.size P0_ u (laws_markIntSS.rows a1 l0) ∧ Below w0.heap.size w0 w' ∧ Kept w w' P0_ := by
  obtain ⟨A, c, rfl, hlc, hC⟩ := Kd.S_reads ho0
  have hmax := Kd.C_max hC
  clear hC
  have HO := Aside0.mk ho0
  have HB := Aside0.mk hB
  clear ho0 hB
  have HZ := Aside0.mk (show laws_markIntSS.upto a1 l0 0 = l0 from by simp [laws_markIntSS.upto, laws_markIntSS.rows])
  have HT := Aside0.mk (fun i => laws_markIntSS.tot_le l0 i)
  go_enter Try.func39, Try.ntmps39
  go_wp2
  go_loopg [1, 5] l0.length (fun gg s1 s5 wr => ∃ i : Nat, i ≤ l0.length ∧ l0.length - i ≤ gg ∧ s1 = .int .i64 (a1 + (laws_markIntSS.tot (l0.take i) : Int)) ∧ s5 = .int .i64 i ∧ Aside0 (Kd.S (Kd.slice 3 (Kd.int .i64)) 24 wr w0.heap.size P0_ (.slice A l0.length c) (laws_markIntSS.upto a1 l0 i)) ∧ Aside0 (Below w0.heap.size w0 wr) ∧ Aside0 (Kept w wr P0_))
  case atStart => exact ⟨0, Nat.zero_le _, by omega, by simp [laws_markIntSS.tot], rfl, ⟨by rw [HZ.out]; exact HO.out⟩, HB, ⟨Kept.refl _ _⟩⟩
  case round =>
    obtain ⟨i, hi, hg, rfl, rfl, HS, HBr, HKr⟩ := hrel
    by_cases hlt : i < l0.length
    · have hltz : (i : Int) < (l0.length : Int) := by omega
      have hz : (0 : Int) ≤ (i : Int) := by omega
      obtain ⟨g, cap, hv, hgb, hgl, cells, hgc⟩ := Kd.S_form HS.out (by rw [laws_markIntSS.upto_length]; omega)
      rw [laws_markIntSS.upto_length] at hv
      injection hv with hv1 hv2 hv3
      subst hv1
      subst hv3
      clear hv2 hgc
      obtain ⟨oki, cs, hcl, hM, hcc, hoki, hH⟩ := Kd.S_lend HS.out [] (i : Int) hz hltz
      obtain ⟨vi, rfl, hR⟩ := hM
      have hx := hcc 0 _ rfl
      rw [Int.toNat_natCast, laws_markIntSS.upto_at a1 l0 i hlt] at hR
      simp only [Int.toNat_natCast, show (Kd.slice 3 (Kd.int .i64)).sz = 1 from rfl, Nat.mul_one, Nat.add_zero] at hx
      have hUS := laws_markIntSS.upto_set a1 l0 i hlt
      have hTT := laws_markIntSS.tot_take l0 i hlt
      have hle := HT.out (i + 1)
      have hm := laws_markIntSS.mark l0[i] (a1 + (laws_markIntSS.tot (l0.take i) : Int)) (by omega) (by omega)
      have HUS := Aside0.mk hUS
      have HTT := Aside0.mk hTT
      have HM := Aside0.mk hm
      have HR := Aside0.mk hR
      have HOI := Aside0.mk hoki
      have HH := Aside0.mk hH
      clear hUS hTT hm hle hR hcc hcl hoki hH
      obtain ⟨Ai, ci, e1⟩ := Kd.R_slice HR.out
      subst e1
      go_wp2_with (go_at_call 46; refine (laws_markIntS.calls _ oki _ l0[i] _ _ _ w0 _ HBr.out HR.out HM.out).mono ?_; rintro e w' ⟨rfl, hr', hb', hk'⟩)
      have HR' := Aside0.mk hr'
      have HB' := Aside0.mk hb'
      have HK' := Aside0.mk hk'
      clear hr' hb' hk'
      go_roundg (l0.length - (i + 1))
      case measure => omega
      case rel =>
        refine ⟨i + 1, by omega, by omega, ?_, by go_num, ⟨?_⟩, HB', ⟨?_⟩⟩
        · rw [HTT.out]; push_cast; first | rfl | (congr 1; omega)
        · rw [← HUS.out]
          have h2 := Kd.H_back (Kd.H_kept HH.out HK'.out (fun k _ hn => hn)) (x' := laws_markIntSS.row (a1 + (laws_markIntSS.tot (l0.take i) : Int)) l0[i].length) (okp := oki) ⟨_, rfl, Kd.R_reok rfl HR'.out (fun k e_ => HR.out.1 k e_)⟩ (fun _ h => h)
          rw [Int.toNat_natCast] at h2
          exact h2
        · exact Kept.then_ HKr.out HK'.out (fun k hk => .inl (HOI.out k hk).1)
    · have hltz : ¬ (i : Int) < (l0.length : Int) := by omega
      have hk2 : i = l0.length := by omega
      subst hk2
      have HF := Aside0.mk (show laws_markIntSS.upto a1 l0 l0.length = laws_markIntSS.rows a1 l0 from by simp [laws_markIntSS.upto])
      go_wp2
      go_ret
      exact ⟨rfl, by rw [← HF.out]; exact HS.out, HBr.out, HKr.out⟩

end Go.Proofs.Ytllnieknogficaa.K
namespace Go.Proofs.Ytllnieknogficaa.K
open Go.RowKit Go.Proofs.YtllnieknogficaaW.PrintWords Go.Proofs.YtllnieknogficaaW.PrintLast Go.Proofs.YtllnieknogficaaW.PrintMore
attribute [local go_sem] max2_int min2_int max_two min_two max_three min_three max_four min_four   -- for this text's walks alone
set_option linter.unusedVariables false
set_option linter.unusedSimpArgs false
/-- A mark at which the walk halts. -/
def Stop (p : Prop) : Prop := p
theorem StopI {p : Prop} (h : Stop p) : p := h
/-- Rows of rows between two marks of the heap. -/
structure OwnSS (w W : World) (lo hi : Nat) (v : Value) (R : List (List Int)) : Prop where
  s : Kd.S (Kd.slice 3 (Kd.int .i64)) 24 W w.heap.size (fun k => lo ≤ k ∧ k < hi) v R
  b : w.heap.size ≤ lo
  t : hi ≤ W.heap.size
/-- A row between two marks of the heap. -/
structure OwnR {α : Type} (d : Kd α) (e : Nat) (w W : World) (lo hi : Nat) (v : Value) (R : List α) : Prop where
  s : Kd.R d e W w.heap.size (fun k => lo ≤ k ∧ k < hi) v R
  b : w.heap.size ≤ lo
  t : hi ≤ W.heap.size
theorem OwnSS.new {w w1 w2 : World} {v : Value} {R : List (List Int)} (ho : Kd.S (Kd.slice 3 (Kd.int .i64)) 24 w2 w1.heap.size (fun _ => True) v R) (HB : Below w.heap.size w w1) : OwnSS w w2 w1.heap.size w2.heap.size v R :=
  ⟨Kd.S_lower (Kd.S_mono (Kd.S_bound ho) (fun _ hk => ⟨hk.2.1, hk.2.2.1⟩)) HB.size, HB.size, Nat.le_refl _⟩
theorem OwnSS.step {w W W' : World} {lo hi : Nat} {v : Value} {R : List (List Int)} (h : OwnSS w W lo hi v R) (hb : Below W.heap.size W W') : OwnSS w W' lo hi v R := ⟨Kd.S_below h.s hb, h.b, Nat.le_trans h.t hb.size⟩
theorem OwnSS.kept {w W W' : World} {lo hi : Nat} {P : Nat → Prop} {v : Value} {R : List (List Int)} (h : OwnSS w W lo hi v R) (hk : Kept W W' P) (hP : ∀ k, lo ≤ k → k < hi → ¬ P k) : OwnSS w W' lo hi v R :=
  ⟨Kd.S_kept h.s hk (fun k hk => hP k hk.1 hk.2), h.b, Nat.le_trans h.t hk.1⟩
theorem OwnSS.reads {w W : World} {lo hi : Nat} {v : Value} {R : List (List Int)} (h : OwnSS w W lo hi v R) : ∃ A c, v = .slice A R.length c ∧ R.length ≤ c := by
  obtain ⟨A, c, e, hl, _⟩ := Kd.S_reads h.s
  exact ⟨A, c, e, hl⟩
theorem OwnSS.c {w W : World} {lo hi n c : Nat} {A : Option Addr} {R : List (List Int)} (h : OwnSS w W lo hi (.slice A n c) R) : Kd.C (Kd.slice 3 (Kd.int .i64)) W A R.length R := (Kd.S_reads' h.s).2.2
theorem OwnSS.done {w W W' : World} {lo hi : Nat} {v : Value} {R R' : List (List Int)} (h : OwnSS w W lo hi v R) (hs : Kd.S (Kd.slice 3 (Kd.int .i64)) 24 W' w.heap.size (fun k => lo ≤ k ∧ k < hi) v R') (hk : W.heap.size ≤ W'.heap.size) : OwnSS w W' lo hi v R' := ⟨hs, h.b, Nat.le_trans h.t hk⟩
section
variable {α : Type} {d : Kd α} {e : Nat}
theorem OwnR.new {w w1 w2 : World} {v : Value} {R : List α} (ho : Kd.R d e w2 w1.heap.size (fun _ => True) v R) (HB : Below w.heap.size w w1) : OwnR d e w w2 w1.heap.size w2.heap.size v R :=
  ⟨Kd.R_lower (Kd.R_mono (Kd.R_bound ho) (fun _ hk => ⟨hk.2.1, hk.2.2.1⟩)) HB.size, HB.size, Nat.le_refl _⟩
theorem OwnR.step {w W W' : World} {lo hi : Nat} {v : Value} {R : List α} (h : OwnR d e w W lo hi v R) (hb : Below W.heap.size W W') : OwnR d e w W' lo hi v R := ⟨Kd.R_below h.s hb, h.b, Nat.le_trans h.t hb.size⟩
theorem OwnR.kept {w W W' : World} {lo hi : Nat} {P : Nat → Prop} {v : Value} {R : List α} (h : OwnR d e w W lo hi v R) (hk : Kept W W' P) (hP : ∀ k, lo ≤ k → k < hi → ¬ P k) : OwnR d e w W' lo hi v R :=
  ⟨Kd.R_kept h.s hk (fun k hk => hP k hk.1 hk.2), h.b, Nat.le_trans h.t hk.1⟩
theorem OwnR.reads {w W : World} {lo hi : Nat} {v : Value} {R : List α} (h : OwnR d e w W lo hi v R) : ∃ A c, v = .slice A R.length c ∧ R.length ≤ c := by
  obtain ⟨A, c, e, hl, _⟩ := Kd.R_reads h.s
  exact ⟨A, c, e, hl⟩
theorem OwnR.c {w W : World} {lo hi n c : Nat} {A : Option Addr} {R : List α} (h : OwnR d e w W lo hi (.slice A n c) R) : Kd.C d W A R.length R := (Kd.R_reads' h.s).2.2
theorem OwnR.done {w W W' : World} {lo hi : Nat} {v : Value} {R R' : List α} (hE : d.E = []) (h : OwnR d e w W lo hi v R) {ok : Nat → Prop} (hs : Kd.R d e W' w.heap.size ok v R') (hk : W.heap.size ≤ W'.heap.size) : OwnR d e w W' lo hi v R' :=
  ⟨Kd.R_reok hE hs (fun k he => h.s.1 k he), h.b, Nat.le_trans h.t hk⟩
end
theorem OwnR.cell {w W : World} {lo hi n cap g : Nat} {x : List Int} (h : OwnR (Kd.int .i64) 3 w W lo hi (.slice (some ⟨g, 0, none⟩) n cap) x) (i : Nat) (hi2 : i < n) (a : Int) (ha : x.getD i 0 = a) :
    W.cell? ⟨g, i, none⟩ = some (.int .i64 a) ∧ W.frozen? ⟨g, i, none⟩ = false := by
  have h2 := Kd.R_celln (0 : Int) h.s (i : Int) (by omega) (by omega)
  have h3 : rdOf (0 : Int) x (i : Int) = a := by rw [← ha]; show x.getD (i : Int).toNat 0 = _; rw [Int.toNat_natCast]
  rw [h3, Int.toNat_natCast] at h2
  exact h2
theorem OwnR.put {w W : World} {lo hi n cap g : Nat} {x : List Int} (h : OwnR (Kd.int .i64) 3 w W lo hi (.slice (some ⟨g, 0, none⟩) n cap) x) (i : Nat) (v : Int) :
    OwnR (Kd.int .i64) 3 w (W.setCell ⟨g, i, none⟩ (.int .i64 v)) lo hi (.slice (some ⟨g, 0, none⟩) n cap) (x.set i v) := by
  have h2 := Kd.R_putn h.s (i : Int) v
  rw [Int.toNat_natCast] at h2
  exact ⟨h2, h.b, by have := h.t; simpa [World.setCell] using this⟩
theorem OwnR.far {α : Type} {d : Kd α} {e : Nat} {w W : World} {lo hi : Nat} {v : Value} {x : List α} (h : OwnR d e w W lo hi v x) {p : Addr} (hp : p.block < lo ∨ hi ≤ p.block) (u : Value) : OwnR d e w (W.setCell p u) lo hi v x :=
  ⟨Kd.R_far h.s (fun k hk => by omega) u, h.b, by have := h.t; simpa [World.setCell] using this⟩
theorem OwnR.blk {α : Type} {d : Kd α} {e : Nat} {w W : World} {lo hi n cap g : Nat} {x : List α} (h : OwnR d e w W lo hi (.slice (some ⟨g, 0, none⟩) n cap) x) : lo ≤ g ∧ g < hi := h.s.1 g (by simp [Value.ownBlock])
theorem OwnR.form {α : Type} {d : Kd α} {e : Nat} {w W : World} {lo hi n c : Nat} {A : Option Addr} {x : List α} (h : OwnR d e w W lo hi (.slice A n c) x) (hp : 0 < x.length) : ∃ g, A = some ⟨g, 0, none⟩ := by
  obtain ⟨g, cap, hv, _⟩ := Kd.R_form h.s hp
  injection hv with e1 _ _
  exact ⟨g, e1⟩
/-- A place of rows of rows: its cell, and what a store there leaves. -/
theorem tab_cell {W : World} {base n c : Nat} {ok : Nat → Prop} {A : Option Addr} {R : List (List Int)} (h : Kd.S (Kd.slice 3 (Kd.int .i64)) 24 W base ok (.slice A n c) R) (i j : Nat) (hi : i < R.length) (hj : j < (R.getD i []).length) :
    ∃ g gi ci : Nat, A = some ⟨g, 0, none⟩ ∧ W.cell? ⟨g, i, none⟩ = some (.slice (some ⟨gi, 0, none⟩) (R.getD i []).length ci) ∧ W.cell? ⟨gi, j, none⟩ = some (.int .i64 ((R.getD i []).getD j 0)) ∧ W.frozen? ⟨gi, j, none⟩ = false ∧ ok gi ∧ base ≤ gi ∧ gi < W.heap.size ∧
      ∀ v, Kd.S (Kd.slice 3 (Kd.int .i64)) 24 (W.setCell ⟨gi, j, none⟩ (.int .i64 v)) base ok (.slice A n c) (R.set i ((R.getD i []).set j v)) := by
  obtain ⟨hn, hle, hC⟩ := Kd.S_reads' h
  obtain ⟨g, cap, hv, hb, hl, hcells⟩ := Kd.R_form (Kd.S_R h) (by omega)
  injection hv with e1 e2 e3
  subst e1
  obtain ⟨oki, cs, hcl, hM, hcc, hok, hbk⟩ := Kd.S_borrow h [] (i : Int) (by omega) (by omega)
  rw [Int.toNat_natCast] at hM hcc hbk
  obtain ⟨u, rfl, hR⟩ := hM
  have hu := hcc 0 _ rfl
  obtain ⟨gi, ci, rfl, hbi, hli, _⟩ := Kd.R_form hR (by omega)
  obtain ⟨h2, h3⟩ := Kd.R_celln (0 : Int) hR (j : Int) (by omega) (by omega)
  have h4 : rdOf (0 : Int) (R.getD i []) (j : Int) = (R.getD i []).getD j 0 := by show (R.getD i []).getD (j : Int).toNat 0 = _; rw [Int.toNat_natCast]
  rw [h4, Int.toNat_natCast] at h2
  rw [Int.toNat_natCast] at h3
  have hoi : oki gi := hR.1 gi (by simp [Value.ownBlock])
  refine ⟨g, gi, ci, rfl, ?_, h2, h3, (hok gi hoi).1, hbi, hli, fun v => ?_⟩
  · have h5 : (⟨g, 0, none⟩ : Addr).add (i * 1 + 0) = ⟨g, i, none⟩ := by rw [Nat.mul_one, Nat.add_zero, add_plain]
    rw [← h5]; exact hu
  · have h6 := Kd.R_putg hR (j : Int) v
    rw [Int.toNat_natCast] at h6
    exact hbk h6.2 (fun k hk => by injection hk with hk; subst hk; exact hoi) ⟨_, rfl, h6.1⟩
theorem OwnSS.far {w W : World} {lo hi : Nat} {v : Value} {R : List (List Int)} (h : OwnSS w W lo hi v R) {p : Addr} (hp : p.block < lo ∨ hi ≤ p.block) (u : Value) : OwnSS w (W.setCell p u) lo hi v R :=
  ⟨Kd.S_far h.s (fun k hk => by omega) u, h.b, by have := h.t; simpa [World.setCell] using this⟩
theorem OwnSS.put {w W : World} {lo hi n c : Nat} {A : Option Addr} {R : List (List Int)} (h : OwnSS w W lo hi (.slice A n c) R) (i j : Nat) (hi2 : i < R.length) (hj : j < (R.getD i []).length) :
    ∃ g gi ci : Nat, A = some ⟨g, 0, none⟩ ∧ W.cell? ⟨g, i, none⟩ = some (.slice (some ⟨gi, 0, none⟩) (R.getD i []).length ci) ∧ W.cell? ⟨gi, j, none⟩ = some (.int .i64 ((R.getD i []).getD j 0)) ∧ W.frozen? ⟨gi, j, none⟩ = false ∧ lo ≤ gi ∧ gi < hi ∧
      ∀ v, OwnSS w (W.setCell ⟨gi, j, none⟩ (.int .i64 v)) lo hi (.slice A n c) (R.set i ((R.getD i []).set j v)) := by
  obtain ⟨g, gi, ci, h1, h2, h3, h4, h5, _, _, h7⟩ := tab_cell h.s i j hi2 hj
  exact ⟨g, gi, ci, h1, h2, h3, h4, h5.1, h5.2, fun v => ⟨h7 v, h.b, by have := h.t; simpa [World.setCell] using this⟩⟩
end Go.Proofs.Ytllnieknogficaa.K
namespace Go.Proofs.Ytllnieknogficaa.K
open Go.RowKit Go.Proofs.YtllnieknogficaaW.PrintWords Go.Proofs.YtllnieknogficaaW.PrintLast Go.Proofs.YtllnieknogficaaW.PrintMore
attribute [local go_sem] max2_int min2_int max_two min_two max_three min_three max_four min_four   -- for this text's walks alone
set_option linter.unusedVariables false
set_option linter.unusedSimpArgs false
def sumN (f : Nat → Int) : Nat → Int
  | 0 => 0
  | n + 1 => sumN f n + f n
theorem sumN_congr (f g : Nat → Int) : ∀ n, (∀ i, i < n → f i = g i) → sumN f n = sumN g n
  | 0, _ => rfl
  | n + 1, h => by
    show sumN f n + f n = sumN g n + g n
    rw [sumN_congr f g n (fun i hi => h i (by omega)), h n (by omega)]
theorem sumN_le (f g : Nat → Int) : ∀ n, (∀ i, i < n → f i ≤ g i) → sumN f n ≤ sumN g n
  | 0, _ => Int.le_refl _
  | n + 1, h => by
    have h1 := sumN_le f g n (fun i hi => h i (by omega))
    have h2 := h n (by omega)
    show sumN f n + f n ≤ sumN g n + g n
    omega
theorem sumN_add (f g : Nat → Int) : ∀ n, sumN (fun i => f i + g i) n = sumN f n + sumN g n
  | 0 => rfl
  | n + 1 => by
    show sumN (fun i => f i + g i) n + (f n + g n) = (sumN f n + f n) + (sumN g n + g n)
    rw [sumN_add f g n]; omega
theorem sumN_sub (f g : Nat → Int) : ∀ n, sumN (fun i => f i - g i) n = sumN f n - sumN g n
  | 0 => rfl
  | n + 1 => by
    show sumN (fun i => f i - g i) n + (f n - g n) = (sumN f n + f n) - (sumN g n + g n)
    rw [sumN_sub f g n]; omega
theorem sumN_mul (c : Int) (f : Nat → Int) : ∀ n, sumN (fun i => c * f i) n = c * sumN f n
  | 0 => by show (0 : Int) = c * 0; omega
  | n + 1 => by
    show sumN (fun i => c * f i) n + c * f n = c * (sumN f n + f n)
    rw [sumN_mul c f n, Int.mul_add]
theorem sumN_zero : ∀ n, sumN (fun _ => 0) n = 0
  | 0 => rfl
  | n + 1 => by show sumN (fun _ => 0) n + 0 = 0; rw [sumN_zero n]; rfl
theorem sumN_nonneg (f : Nat → Int) (n : Nat) (h : ∀ i, i < n → 0 ≤ f i) : 0 ≤ sumN f n := by
  have := sumN_le (fun _ => 0) f n h
  rwa [sumN_zero] at this
theorem sumN_bound (f : Nat → Int) (B : Int) : ∀ n, (∀ i, i < n → 0 ≤ f i ∧ f i ≤ B) → 0 ≤ sumN f n ∧ sumN f n ≤ (n : Int) * B
  | 0, _ => by show (0 : Int) ≤ 0 ∧ (0 : Int) ≤ ((0 : Nat) : Int) * B; rw [Int.natCast_zero, Int.zero_mul]; exact ⟨Int.le_refl _, Int.le_refl _⟩
  | n + 1, h => by
    obtain ⟨h1, h2⟩ := sumN_bound f B n (fun i hi => h i (by omega))
    have h3 := h n (by omega)
    show 0 ≤ sumN f n + f n ∧ sumN f n + f n ≤ ((n + 1 : Nat) : Int) * B
    have e : ((n + 1 : Nat) : Int) * B = (n : Int) * B + B := by push_cast; rw [Int.add_mul, Int.one_mul]
    rw [e]; omega
theorem sumN_mono (f : Nat → Int) : ∀ (n m : Nat), m ≤ n → (∀ i, i < n → 0 ≤ f i) → sumN f m ≤ sumN f n
  | 0, m, h, _ => by obtain rfl : m = 0 := Nat.le_zero.1 h; exact Int.le_refl _
  | n + 1, m, h, hp => by
    by_cases e : m = n + 1
    · subst e; exact Int.le_refl _
    · have h1 := sumN_mono f n m (by omega) (fun i hi => hp i (by omega))
      have h2 := hp n (by omega)
      show sumN f m ≤ sumN f n + f n
      omega
theorem sumN_swap (f : Nat → Nat → Int) (m : Nat) : ∀ n, sumN (fun i => sumN (fun j => f i j) m) n = sumN (fun j => sumN (fun i => f i j) n) m
  | 0 => by show (0 : Int) = sumN (fun _ => 0) m; rw [sumN_zero]
  | n + 1 => by
    show sumN (fun i => sumN (fun j => f i j) m) n + sumN (fun j => f n j) m = sumN (fun j => sumN (fun i => f i j) n + f n j) m
    rw [sumN_swap f m n, sumN_add]
/-- One place's value. -/
theorem sumN_single (f : Nat → Int) (k : Nat) : ∀ n, k < n → (∀ i, i < n → i ≠ k → f i = 0) → sumN f n = f k
  | 0, h, _ => by omega
  | n + 1, h, hz => by
    show sumN f n + f n = f k
    by_cases e : k = n
    · subst e
      rw [sumN_congr f (fun _ => 0) k (fun i hi => hz i (by omega) (by omega)), sumN_zero]; omega
    · rw [sumN_single f k n (by omega) (fun i hi hne => hz i (by omega) hne), hz n (by omega) (fun h => e h.symm)]; omega
/-- A term is at most the sum. -/
theorem sumN_term (f : Nat → Int) (n k : Nat) (hk : k < n) (hp : ∀ i, i < n → 0 ≤ f i) : f k ≤ sumN f n := by
  have h1 := sumN_mono f n (k + 1) (by omega) hp
  have h2 := sumN_nonneg f k (fun i hi => hp i (by omega))
  have h3 : sumN f (k + 1) = sumN f k + f k := rfl
  omega
end Go.Proofs.Ytllnieknogficaa.K
namespace Go.Proofs.Ytllnieknogficaa.K
open Go.RowKit Go.Proofs.YtllnieknogficaaW.PrintWords Go.Proofs.YtllnieknogficaaW.PrintLast Go.Proofs.YtllnieknogficaaW.PrintMore
attribute [local go_sem] max2_int min2_int max_two min_two max_three min_three max_four min_four   -- for this text's walks alone
set_option linter.unusedVariables false
set_option linter.unusedSimpArgs false

/-! ### impl_within: function 173 -/
def impl_within.f (a0 : Int) (a1 : Int) (a2 : Int) : Option (Bool) := if a0 ≥ a1 then (some (decide (a0 ≤ a2))) else (some false)
set_option maxHeartbeats 8000000 in
set_option maxRecDepth 100000 in
theorem impl_within.calls (a0 : Int) (a1 : Int) (a2 : Int) (r : Bool) (w : World) (h : impl_within.f a0 a1 a2 = some r) :
    Calls Try.prog 173 #[.int .i64 a0, .int .i64 a1, .int .i64 a2] w fun e w' => e = .returned (.bool r) ∧ Drawn0 w w' := by
  have H : (if a0 ≥ a1 then (some (decide (a0 ≤ a2))) else (some false)) = some r := h
  clear h
  by_cases c4 : a0 ≥ a1
  · rw [if_pos c4] at H
    have c4b0 : decide (a1 ≤ a0) = true := decide_eq_true c4
    clear c4
    obtain rfl := Option.some.inj H
    go_enter Try.func173, Try.ntmps173
    go_wp2
    go_ret
    exact ⟨by first | rfl | (simp; done) | (simp [*]; done), by repeat (first | exact Drawn0.refl _ | apply Drawn0.step)⟩
  · rw [if_neg c4] at H
    have c4b0 : decide (a1 ≤ a0) = false := decide_eq_false c4
    clear c4
    obtain rfl := Option.some.inj H
    go_enter Try.func173, Try.ntmps173
    go_wp2
    go_ret
    exact ⟨by first | rfl | (simp; done) | (simp [*]; done), by repeat (first | exact Drawn0.refl _ | apply Drawn0.step)⟩

end Go.Proofs.Ytllnieknogficaa.K
namespace Go.Proofs.Ytllnieknogficaa.K
open Go.RowKit Go.Proofs.YtllnieknogficaaW.PrintWords Go.Proofs.YtllnieknogficaaW.PrintLast Go.Proofs.YtllnieknogficaaW.PrintMore
attribute [local go_sem] max2_int min2_int max_two min_two max_three min_three max_four min_four   -- for this text's walks alone
set_option linter.unusedVariables false
set_option linter.unusedSimpArgs false

/-! ### impl_allWithin: function 174 -/
def impl_allWithin.l0 : Nat → Int → Int → List Int → Int → Int → Option (Bool)
  | 0, _, _, _, _, _ => none
  | k + 1, x1, x2, x9, x10, x11 => if x11 < x10 then (if 0 ≤ x11 then (if x11 < (x9.length : Int) then ((impl_within.f (rd x9 x11) x1 x2).bind fun t208 => (if t208 = true then (impl_allWithin.l0 k x1 x2 x9 x10 (wrap64 (x11 + 1))) else (some false))) else (none)) else (none)) else (some true)
def impl_allWithin.f (k : Nat) (l0 : List Int) (a1 : Int) (a2 : Int) : Option (Bool) := impl_allWithin.l0 k a1 a2 l0 (l0.length : Int) 0
theorem impl_allWithin.mono_l : ∀ k, (∀ y0 y1 y2 y3 y4, LeO (impl_allWithin.l0 k y0 y1 y2 y3 y4) (impl_allWithin.l0 (k + 1) y0 y1 y2 y3 y4))
  | 0 => fun _ _ _ _ _ r h => by simp [impl_allWithin.l0] at h
  | k + 1 => by
    have ih0 := impl_allWithin.mono_l k
    · intro y0 y1 y2 y3 y4
      unfold impl_allWithin.l0
      repeat' first
      | (with_reducible exact ih0 _ _ _ _ _)
      | (with_reducible exact LeO.refl _)
      | (with_reducible exact LeO.none _)
      | (with_reducible refine LeO.ite ?_ ?_)
      | (with_reducible refine LeO.bind ?_ (fun _ => ?_))
      | exact ih0 _ _ _ _ _
      | exact LeO.none _
      | refine LeO.ite ?_ ?_
      | refine LeO.bind ?_ (fun _ => ?_)
theorem impl_allWithin.mono : ∀ a0 a1 a2 k, LeO (impl_allWithin.f k a0 a1 a2) (impl_allWithin.f (k + 1) a0 a1 a2) := by
  intro a0 a1 a2 k
  have ih0 := impl_allWithin.mono_l k
  unfold impl_allWithin.f
  repeat' first
      | (with_reducible exact ih0 _ _ _ _ _)
      | (with_reducible exact LeO.refl _)
      | (with_reducible exact LeO.none _)
      | (with_reducible refine LeO.ite ?_ ?_)
      | (with_reducible refine LeO.bind ?_ (fun _ => ?_))
      | exact ih0 _ _ _ _ _
      | exact LeO.none _
      | refine LeO.ite ?_ ?_
      | refine LeO.bind ?_ (fun _ => ?_)
set_option maxHeartbeats 8000000 in
set_option maxRecDepth 100000 in
theorem impl_allWithin.calls (k : Nat) (A0 : Option Addr) (c0 : Nat) (l0 : List Int) (a1 : Int) (a2 : Int) (r : Bool) (w : World) (hr0 : Kd.C (Kd.int .i64) w A0 l0.length l0) (hc0 : l0.length ≤ c0) (h : impl_allWithin.f k l0 a1 a2 = some r) :
    Calls Try.prog 174 #[.slice A0 l0.length c0, .int .i64 a1, .int .i64 a2] w fun e w' => e = .returned (.bool r) ∧ Drawn0 w w' := by
  have HR0 := Aside0.mk hr0
  have HC0 := Aside0.mk hc0
  clear hr0 hc0
  have H : (impl_allWithin.l0 k a1 a2 l0 (l0.length : Int) 0) = some r := h
  clear h
  have H' := Aside0.mk H
  clear H
  go_enter Try.func174, Try.ntmps174
  go_wp2
  go_loopg [11] k (fun kq v11 w' => ∃ (x11_1 : Int), v11 = .int .i64 x11_1 ∧ Aside0 (impl_allWithin.l0 kq a1 a2 l0 (l0.length : Int) x11_1 = some r) ∧ Aside0 (kq ≤ k) ∧ Drawn0 w w')
  case atStart => exact ⟨(0), (by first | rfl | (simp; done) | (simp [*]; done)), H', ⟨Nat.le_refl _⟩, by repeat (first | exact Drawn0.refl _ | apply Drawn0.step)⟩
  case round =>
    clear H'
    try clear c1
    try clear p2
    obtain ⟨x11_1, rfl, HA, HK1, ⟨m1, rfl⟩⟩ := hrel
    cases gk with
    | zero => exact absurd HA.out (by simp [impl_allWithin.l0])
    | succ k1 =>
      have H := HA.out
      clear HA
      simp only [impl_allWithin.l0] at H
      by_cases c4 : x11_1 < (l0.length : Int)
      · rw [if_pos c4] at H
        have c4b0 : decide (x11_1 < (l0.length : Int)) = true := decide_eq_true c4
        clear c4
        by_cases c5 : 0 ≤ x11_1
        · rw [if_pos c5] at H
          have c5b0 : decide (0 ≤ x11_1) = true := decide_eq_true c5
          clear c5
          by_cases c6 : x11_1 < (l0.length : Int)
          · rw [if_pos c6] at H
            have c6b0 : decide (x11_1 < (l0.length : Int)) = true := decide_eq_true c6
            clear c6
            replace H := Option.bind_eq_some_iff.mp H
            obtain ⟨t208, A70, H⟩ := H
            replace H : (if t208 = true then (impl_allWithin.l0 k1 a1 a2 l0 (l0.length : Int) (wrap64 (x11_1 + 1))) else (some false)) = some r := H
            have A7 := Aside0.mk A70
            clear A70
            by_cases c8 : t208 = true
            · subst c8
              have H1 : (impl_allWithin.l0 k1 a1 a2 l0 (l0.length : Int) (wrap64 (x11_1 + 1))) = some r := by rw [if_pos rfl] at H; exact H
              clear H
              have H := H1
              clear H1
              have H' := Aside0.mk H
              clear H
              have p207 : 0 ≤ (x11_1 : Int) := of_decide_eq_true (by first | (with_reducible assumption) | assumption)
              have q207 : x11_1 < (l0.length : Int) := of_decide_eq_true (by first | (with_reducible assumption) | assumption)
              obtain ⟨ad207, e207, hx207_0⟩ := Kd.at_int HR0.out x11_1 p207 q207
              cases e207
              replace p207 := eq_true p207
              replace q207 := eq_true q207
              go_wp2_with (first | ((with_reducible refine gate_callee (f := 173) rfl ?_); refine goesL_ (some 18) rfl rfl Try.func173 (by kernel_rfl) rfl #[.int .i64 (rd l0 x11_1), .int .i64 a1, .int .i64 a2] rfl (by (try simp only [List.map_toArray, List.map_cons, List.map_nil]); first | done | rfl | (simp only [List.length_drop, List.length_take]; rfl)) ?_; (with_reducible refine (impl_within.calls (rd l0 x11_1) a1 a2 true _ A7.out).mono ?_); rintro e w' ⟨rfl, ⟨nd, rfl⟩⟩; refine ⟨_, rfl, ?_⟩))
              go_roundg k1
              case measure => have := HK1.out; omega
              case rel => exact ⟨(wrap64 (x11_1 + 1)), (by first | rfl | (simp; done) | (simp [*]; done)), H', ⟨by have := HK1.out; omega⟩, by repeat (first | exact Drawn0.refl _ | apply Drawn0.step)⟩
            · replace c8 := Bool.eq_false_iff.mpr c8
              subst c8
              have H1 : (some false) = some r := by rw [if_neg (show ¬ (false = true) by decide)] at H; exact H
              clear H
              have H := H1
              clear H1
              obtain rfl := Option.some.inj H
              have p207 : 0 ≤ (x11_1 : Int) := of_decide_eq_true (by first | (with_reducible assumption) | assumption)
              have q207 : x11_1 < (l0.length : Int) := of_decide_eq_true (by first | (with_reducible assumption) | assumption)
              obtain ⟨ad207, e207, hx207_0⟩ := Kd.at_int HR0.out x11_1 p207 q207
              cases e207
              replace p207 := eq_true p207
              replace q207 := eq_true q207
              go_wp2_with (first | ((with_reducible refine gate_callee (f := 173) rfl ?_); refine goesL_ (some 18) rfl rfl Try.func173 (by kernel_rfl) rfl #[.int .i64 (rd l0 x11_1), .int .i64 a1, .int .i64 a2] rfl (by (try simp only [List.map_toArray, List.map_cons, List.map_nil]); first | done | rfl | (simp only [List.length_drop, List.length_take]; rfl)) ?_; (with_reducible refine (impl_within.calls (rd l0 x11_1) a1 a2 false _ A7.out).mono ?_); rintro e w' ⟨rfl, ⟨nd, rfl⟩⟩; refine ⟨_, rfl, ?_⟩))
              go_ret
              exact ⟨by first | rfl | (simp; done) | (simp [*]; done), by repeat (first | exact Drawn0.refl _ | apply Drawn0.step)⟩
          · rw [if_neg c6] at H
            exact absurd H (by simp)
        · rw [if_neg c5] at H
          exact absurd H (by simp)
      · rw [if_neg c4] at H
        have c4b0 : decide (x11_1 < (l0.length : Int)) = false := decide_eq_false c4
        clear c4
        obtain rfl := Option.some.inj H
        go_wp2
        go_ret
        exact ⟨by first | rfl | (simp; done) | (simp [*]; done), by repeat (first | exact Drawn0.refl _ | apply Drawn0.step)⟩

end Go.Proofs.Ytllnieknogficaa.K
namespace Go.Proofs.Ytllnieknogficaa.K
open Go.RowKit Go.Proofs.YtllnieknogficaaW.PrintWords Go.Proofs.YtllnieknogficaaW.PrintLast Go.Proofs.YtllnieknogficaaW.PrintMore
attribute [local go_sem] max2_int min2_int max_two min_two max_three min_three max_four min_four   -- for this text's walks alone
set_option linter.unusedVariables false
set_option linter.unusedSimpArgs false

/-! ### impl_isPlan: function 118 -/
def impl_isPlan.p (n : Nat) (r : List Int) : Bool := decide (r.length = n) && r.all fun x => decide (0 ≤ x) && decide (x ≤ 60)
def impl_isPlan.f (l0 : List (List Int)) : Option Bool := some (decide (1 ≤ l0.length) && decide (l0.length ≤ 8) && l0.all (impl_isPlan.p l0.length))
/-- All numbers of a list lie between two others: what the printed loop comes to. -/
theorem impl_isPlan.all (l : List Int) (a b : Int) (hl : l.length ≤ 9223372036854775807) : ∀ d k (i : Nat), i ≤ l.length → l.length - i = d → d < k →
    impl_allWithin.l0 k a b l (l.length : Int) (i : Int) = some ((l.drop i).all fun x => decide (a ≤ x) && decide (x ≤ b)) := by
  intro d
  induction d with
  | zero =>
    intro k i hi hd hk
    obtain ⟨k, rfl⟩ : ∃ m, k = m + 1 := ⟨k - 1, by omega⟩
    have : i = l.length := by omega
    subst this
    simp only [impl_allWithin.l0]
    rw [if_neg (by omega)]
    simp
  | succ d ih =>
    intro k i hi hd hk
    obtain ⟨k, rfl⟩ : ∃ m, k = m + 1 := ⟨k - 1, by omega⟩
    have hlt : i < l.length := by omega
    simp only [impl_allWithin.l0]
    rw [if_pos (by omega), if_pos (by omega), if_pos (by omega)]
    have hw : wrap64 ((i : Int) + 1) = ((i + 1 : Nat) : Int) := by unfold wrap64; omega
    have hr : rd l (i : Int) = l[i] := by unfold rd; simp [hlt]
    rw [hw, ih k (i + 1) (by omega) (by omega) (by omega), hr, List.drop_eq_getElem_cons hlt, List.all_cons]
    unfold impl_within.f
    by_cases h1 : l[i] ≥ a
    · rw [if_pos h1]
      by_cases h2 : l[i] ≤ b
      · simp only [decide_eq_true h2, Option.bind_some, if_true, decide_eq_true (show a ≤ l[i] from h1), Bool.and_self, Bool.true_and]
      · simp only [decide_eq_false h2, Option.bind_some, Bool.and_false, Bool.false_and]; rfl
    · rw [if_neg h1]
      simp only [decide_eq_false (show ¬ a ≤ l[i] from h1), Option.bind_some, Bool.false_and]; rfl
theorem impl_isPlan.allf (l : List Int) (a b : Int) (hl : l.length ≤ 9223372036854775807) : impl_allWithin.f (l.length + 1) l a b = some (l.all fun x => decide (a ≤ x) && decide (x ≤ b)) := by
  have h := impl_isPlan.all l a b hl l.length (l.length + 1) 0 (by omega) (by omega) (by omega)
  simpa [impl_allWithin.f] using h
set_option maxHeartbeats 400000 in
set_option maxRecDepth 100000 in
/-- The closure: it refuses a row. -/
theorem impl_isPlan.closure (A : Option Addr) (c : Nat) (l : List Int) (B n cm : Nat) (Am : Option Addr) (w : World) (hr : Kd.C (Kd.int .i64) w A l.length l) (hc : l.length ≤ c) (hl : l.length ≤ 9223372036854775807) (hm : w.cell? ⟨B, 0, none⟩ = some (.slice Am n cm)) :
    Calls Try.prog 205 #[.slice A l.length c, .pointer (some ⟨B, 0, none⟩)] w fun e w' => e = .returned (.bool (!impl_isPlan.p n l)) ∧ Drawn0 w w' := by
  by_cases hn : l.length = n
  · have hn1 : (l.length == n) = true := by simpa using hn
    have hn2 : ((l.length : Int) != (n : Int)) = false := by simp [hn]
    have hp : impl_isPlan.p n l = l.all fun x => decide (0 ≤ x) && decide (x ≤ 60) := by simp [impl_isPlan.p, hn]
    rw [hp]
    have hf := impl_isPlan.allf l 0 60 hl
    clear hp hn
    have HF := Aside0.mk hf
    clear hf
    go_enter Try.func205, Try.ntmps205
    go_wp2_with (go_at_call 174; refine (impl_allWithin.calls _ _ _ l 0 60 _ _ hr hc HF.out).mono ?_; rintro e w' ⟨rfl, ⟨nd, rfl⟩⟩)
    go_ret
    exact ⟨rfl, by repeat (first | exact Drawn0.refl _ | apply Drawn0.step)⟩
  · have hn2 : ((l.length : Int) != (n : Int)) = true := by simp; omega
    have hp : impl_isPlan.p n l = false := by simp [impl_isPlan.p, hn]
    rw [hp]
    clear hp
    go_enter Try.func205, Try.ntmps205
    go_wp2
    go_ret
    exact ⟨rfl, by repeat (first | exact Drawn0.refl _ | apply Drawn0.step)⟩
set_option maxHeartbeats 400000 in
set_option maxRecDepth 100000 in
/-- slices.IndexFunc over rows, at a predicate that may lay blocks of its own. -/
theorem impl_isPlan.index (pr : List Int → Bool) (g : Nat) (lb : Array Value) (eg : ∀ args w, (callFunc g args).run Try.prog w = .ok (.enter g args) w) (A : Option Addr) (c : Nat) (l0 : List (List Int)) (w : World)
    (hr : Kd.C (Kd.slice 3 (Kd.int .i64)) w A l0.length l0)
    (hp : ∀ (W : World) (A' : Option Addr) (c' : Nat) (l : List Int), Below w.heap.size w W → Kd.C (Kd.int .i64) W A' l.length l → l.length ≤ c' → l ∈ l0 → Calls Try.prog g (#[.slice A' l.length c'] ++ lb) W fun e w' => e = .returned (.bool (pr l)) ∧ Below W.heap.size W w') :
    Calls Try.prog 224 #[.slice A l0.length c, .func (.func g) #[] lb] w fun e w' => ∃ r : Int, e = .returned (.int .i64 r) ∧ (decide (r ≥ 0) = l0.any pr) ∧ Below w.heap.size w w' := by
  have hmax := Kd.C_max hr
  have HR := Aside0.mk hr
  have HP := Aside0.mk hp
  clear hr hp
  go_enter Try.func224, Try.ntmps224
  go_wp2
  go_loopg [5, 8] l0.length (fun gg _ s8 wr => ∃ kk : Nat, kk ≤ l0.length ∧ l0.length - kk ≤ gg ∧ s8 = .int .i64 kk ∧ Aside0 (Below w.heap.size w wr) ∧ Aside0 ((l0.take kk).any pr = false))
  case atStart => exact ⟨0, Nat.zero_le _, by omega, rfl, ⟨Below.refl _ w⟩, ⟨by simp⟩⟩
  case round =>
    obtain ⟨kk, hkk, hg, rfl, BW, TA⟩ := hrel
    by_cases hlt : kk < l0.length
    · have hltz : (kk : Int) < (l0.length : Int) := by omega
      have hz : (0 : Int) ≤ (kk : Int) := by omega
      obtain ⟨ad, A1, c1, e1, hx, hl1, hi1⟩ := at_L2 HR.out (kk : Int) hz hltz
      cases e1
      have hrd : rd_L2 l0 (kk : Int) = l0[kk] := by unfold rd_L2; simp [hlt]
      have hx2 := (BW.out.cell (World.block_lt_of_cell? w _ hx)).trans hx
      have hi2 := Kd.C_below hi1 BW.out
      rw [hrd, Int.toNat_natCast] at hx2
      rw [hrd] at hi2 hl1
      have hcall := HP.out wr A1 c1 l0[kk] BW.out hi2 hl1 (List.getElem_mem hlt)
      have hsnoc : (l0.take (kk + 1)).any pr = ((l0.take kk).any pr || pr l0[kk]) := by rw [List.take_succ_eq_append_getElem hlt, List.any_append]; simp
      have SN := Aside0.mk hsnoc
      clear hx hi1 hrd hsnoc
      generalize hy : l0[kk] = y at hcall hx2 hi2 hl1 SN
      have MY := Aside0.mk (show y ∈ l0 from hy ▸ List.getElem_mem hlt)
      clear hy hi2
      cases hq : pr y with
      | true =>
        rw [hq] at hcall
        have hq2 := Aside0.mk hq
        clear hq
        go_wp2_with (go_at_fn g; refine hcall.mono ?_; rintro e w' ⟨rfl, hb'⟩)
        go_ret
        refine ⟨_, rfl, ?_, below_step BW.out hb'⟩
        rw [List.any_eq_true.2 ⟨y, MY.out, hq2.out⟩]
        simp
      | false =>
        rw [hq] at hcall
        have hq2 := Aside0.mk hq
        clear hq
        go_wp2_with (go_at_fn g; refine hcall.mono ?_; rintro e w' ⟨rfl, hb'⟩)
        have HB' := Aside0.mk hb'
        clear hb'
        go_roundg (l0.length - (kk + 1))
        case measure => omega
        case rel => exact ⟨kk + 1, by omega, by omega, by go_num, ⟨below_step BW.out HB'.out⟩, ⟨by rw [SN.out, TA.out, hq2.out]; rfl⟩⟩
    · have hltz : ¬ (kk : Int) < (l0.length : Int) := by omega
      have hk2 : kk = l0.length := by omega
      subst hk2
      have hfin : l0.any pr = false := by have := TA.out; rwa [List.take_length] at this
      have HF := Aside0.mk hfin
      clear hfin
      go_wp2
      go_ret
      exact ⟨_, rfl, by rw [HF.out]; rfl, BW.out⟩
set_option maxHeartbeats 400000 in
theorem impl_isPlan.contains (pr : List Int → Bool) (g : Nat) (lb : Array Value) (eg : ∀ args w, (callFunc g args).run Try.prog w = .ok (.enter g args) w) (A : Option Addr) (c : Nat) (l0 : List (List Int)) (w : World)
    (hr : Kd.C (Kd.slice 3 (Kd.int .i64)) w A l0.length l0)
    (hp : ∀ (W : World) (A' : Option Addr) (c' : Nat) (l : List Int), Below w.heap.size w W → Kd.C (Kd.int .i64) W A' l.length l → l.length ≤ c' → l ∈ l0 → Calls Try.prog g (#[.slice A' l.length c'] ++ lb) W fun e w' => e = .returned (.bool (pr l)) ∧ Below W.heap.size W w') :
    Calls Try.prog 204 #[.slice A l0.length c, .func (.func g) #[] lb] w fun e w' => e = .returned (.bool (l0.any pr)) ∧ Below w.heap.size w w' := by
  have hi := impl_isPlan.index pr g lb eg A c l0 w hr hp
  clear hr hp
  go_enter Try.func204, Try.ntmps204
  go_wp2_with (go_at_call 224; refine hi.mono ?_; rintro e w' ⟨r, rfl, hr, hb⟩)
  have HR := Aside0.mk hr
  clear hr
  go_ret
  exact ⟨by rw [← HR.out]; rfl, hb⟩
set_option maxHeartbeats 400000 in
set_option maxRecDepth 100000 in
theorem impl_isPlan.calls (A0 : Option Addr) (c0 : Nat) (l0 : List (List Int)) (r : Bool) (w : World) (hr0 : Kd.C (Kd.slice 3 (Kd.int .i64)) w A0 l0.length l0) (hc0 : l0.length ≤ c0) (h : impl_isPlan.f l0 = some r) :
    Calls Try.prog 118 #[.slice A0 l0.length c0] w fun e w' => e = .returned (.bool r) ∧ Below w.heap.size w w' := by
  obtain rfl := Option.some.inj h
  clear h
  have hmf : ∀ (fn : Fn) (first cap : Array Value) (w : World), (Instr.makeFunc fn first cap).run Try.prog w = .ok (.func fn first cap) w := fun _ _ _ _ => rfl
  have HR := Aside0.mk hr0
  have HC := Aside0.mk hc0
  clear hr0 hc0
  by_cases h8 : l0.length ≤ 8
  · by_cases h1 : 1 ≤ l0.length
    · have hw : impl_within.f (l0.length : Int) 1 8 = some true := by unfold impl_within.f; rw [if_pos (by omega), decide_eq_true (by omega)]
      have HW := Aside0.mk hw
      have hany : l0.any (fun l => !impl_isPlan.p l0.length l) = !(l0.all (impl_isPlan.p l0.length)) := by rw [List.not_all_eq_any_not]
      have HA := Aside0.mk hany
      have hcell : (w.alloc (.cells #[.slice A0 l0.length c0] 37)).cell? ⟨w.heap.size, 0, none⟩ = some (.slice A0 l0.length c0) := by rw [World.cell?_alloc_at _ _ _ _ rfl]; rfl
      have hlt : w.heap.size < (w.alloc (.cells #[.slice A0 l0.length c0] 37)).heap.size := by simp
      have hcon := fun (n : Nat) => impl_isPlan.contains (fun l => !impl_isPlan.p l0.length l) 205 #[.pointer (some ⟨w.heap.size, 0, none⟩)] (enters_of Try.func205 (by kernel_rfl) rfl) A0 c0 l0 ((w.alloc (.cells #[.slice A0 l0.length c0] 37)).drewN n) (Kd.C_drewN (Kd.C_alloc HR.out _) n)
        (fun W A' c' l hb hl hc hm => by
          have hmx := Kd.C_max hl
          refine (impl_isPlan.closure A' c' l w.heap.size l0.length c0 A0 W hl hc ?_ ?_).mono ?_
          · exact hmx
          · exact (hb.cell (p := ⟨w.heap.size, 0, none⟩) hlt).trans hcell
          · rintro e w' ⟨rfl, hd⟩
            exact ⟨rfl, hd.below⟩)
      have HCON := Aside0.mk hcon
      clear hcon hw hany hcell hlt
      have hd1 : decide (1 ≤ l0.length) = true := decide_eq_true h1
      have hd8 : decide (l0.length ≤ 8) = true := decide_eq_true h8
      rw [hd1, hd8, Bool.true_and, Bool.true_and]
      clear hd1 hd8
      go_enter Try.func118, Try.ntmps118
      go_wp2_with (first | (go_at_call 173; refine (impl_within.calls _ _ _ _ _ HW.out).mono ?_; rintro e w' ⟨rfl, ⟨nd, rfl⟩⟩) | (go_at_call 204; refine (HCON.out _).mono ?_; rintro e w' ⟨rfl, hb⟩))
      go_ret
      exact ⟨by show Ending.returned (Value.bool (!l0.any fun l => !impl_isPlan.p l0.length l)) = _; rw [HA.out, Bool.not_not], below_step (pw_below_drewN (below_alloc (Below.refl _ _) _) _) hb⟩
    · have hw : impl_within.f (l0.length : Int) 1 8 = some false := by unfold impl_within.f; rw [if_neg (by omega)]
      have HW := Aside0.mk hw
      clear hw
      have hd1 : decide (1 ≤ l0.length) = false := decide_eq_false h1
      rw [hd1, Bool.false_and, Bool.false_and]
      clear hd1
      go_enter Try.func118, Try.ntmps118
      go_wp2_with (go_at_call 173; refine (impl_within.calls _ _ _ _ _ HW.out).mono ?_; rintro e w' ⟨rfl, ⟨nd, rfl⟩⟩)
      go_ret
      exact ⟨rfl, pw_below_drewN (below_alloc (Below.refl _ _) _) _⟩
  · have hw : impl_within.f (l0.length : Int) 1 8 = some false := by unfold impl_within.f; rw [if_pos (by omega), decide_eq_false (by omega)]
    have HW := Aside0.mk hw
    clear hw
    have hd1 : decide (l0.length ≤ 8) = false := decide_eq_false h8
    rw [hd1, Bool.and_false, Bool.false_and]
    clear hd1
    go_enter Try.func118, Try.ntmps118
    go_wp2_with (go_at_call 173; refine (impl_within.calls _ _ _ _ _ HW.out).mono ?_; rintro e w' ⟨rfl, ⟨nd, rfl⟩⟩)
    go_ret
    exact ⟨rfl, pw_below_drewN (below_alloc (Below.refl _ _) _) _⟩

end Go.Proofs.Ytllnieknogficaa.K
namespace Go.Proofs.Ytllnieknogficaa.K
open Go.RowKit Go.Proofs.YtllnieknogficaaW.PrintWords Go.Proofs.YtllnieknogficaaW.PrintLast Go.Proofs.YtllnieknogficaaW.PrintMore
attribute [local go_sem] max2_int min2_int max_two min_two max_three min_three max_four min_four   -- for this text's walks alone
set_option linter.unusedVariables false
set_option linter.unusedSimpArgs false

/-! ### spec_l1In: function 195 -/
def spec_l1In.f (a0 : Int) (a1 : Int) (a2 : Int) : Option (Bool) := if a0 ≥ a1 then (some (decide (a0 ≤ a2))) else (some false)
set_option maxHeartbeats 8000000 in
set_option maxRecDepth 100000 in
theorem spec_l1In.calls (a0 : Int) (a1 : Int) (a2 : Int) (r : Bool) (w : World) (h : spec_l1In.f a0 a1 a2 = some r) :
    Calls Try.prog 195 #[.int .i64 a0, .int .i64 a1, .int .i64 a2] w fun e w' => e = .returned (.bool r) ∧ Drawn0 w w' := by
  have H : (if a0 ≥ a1 then (some (decide (a0 ≤ a2))) else (some false)) = some r := h
  clear h
  by_cases c4 : a0 ≥ a1
  · rw [if_pos c4] at H
    have c4b0 : decide (a1 ≤ a0) = true := decide_eq_true c4
    clear c4
    obtain rfl := Option.some.inj H
    go_enter Try.func195, Try.ntmps195
    go_wp2
    go_ret
    exact ⟨by first | rfl | (simp; done) | (simp [*]; done), by repeat (first | exact Drawn0.refl _ | apply Drawn0.step)⟩
  · rw [if_neg c4] at H
    have c4b0 : decide (a1 ≤ a0) = false := decide_eq_false c4
    clear c4
    obtain rfl := Option.some.inj H
    go_enter Try.func195, Try.ntmps195
    go_wp2
    go_ret
    exact ⟨by first | rfl | (simp; done) | (simp [*]; done), by repeat (first | exact Drawn0.refl _ | apply Drawn0.step)⟩

end Go.Proofs.Ytllnieknogficaa.K
namespace Go.Proofs.Ytllnieknogficaa.K
open Go.RowKit Go.Proofs.YtllnieknogficaaW.PrintWords Go.Proofs.YtllnieknogficaaW.PrintLast Go.Proofs.YtllnieknogficaaW.PrintMore
attribute [local go_sem] max2_int min2_int max_two min_two max_three min_three max_four min_four   -- for this text's walks alone
set_option linter.unusedVariables false
set_option linter.unusedSimpArgs false

/-! ### spec_l1All: function 196 -/
def spec_l1All.l0 : Nat → Int → Int → List Int → Int → Int → Option (Bool)
  | 0, _, _, _, _, _ => none
  | k + 1, x1, x2, x9, x10, x11 => if x11 < x10 then (if 0 ≤ x11 then (if x11 < (x9.length : Int) then ((spec_l1In.f (rd x9 x11) x1 x2).bind fun t227 => (if t227 = true then (spec_l1All.l0 k x1 x2 x9 x10 (wrap64 (x11 + 1))) else (some false))) else (none)) else (none)) else (some true)
def spec_l1All.f (k : Nat) (l0 : List Int) (a1 : Int) (a2 : Int) : Option (Bool) := spec_l1All.l0 k a1 a2 l0 (l0.length : Int) 0
theorem spec_l1All.mono_l : ∀ k, (∀ y0 y1 y2 y3 y4, LeO (spec_l1All.l0 k y0 y1 y2 y3 y4) (spec_l1All.l0 (k + 1) y0 y1 y2 y3 y4))
  | 0 => fun _ _ _ _ _ r h => by simp [spec_l1All.l0] at h
  | k + 1 => by
    have ih0 := spec_l1All.mono_l k
    · intro y0 y1 y2 y3 y4
      unfold spec_l1All.l0
      repeat' first
      | (with_reducible exact ih0 _ _ _ _ _)
      | (with_reducible exact LeO.refl _)
      | (with_reducible exact LeO.none _)
      | (with_reducible refine LeO.ite ?_ ?_)
      | (with_reducible refine LeO.bind ?_ (fun _ => ?_))
      | exact ih0 _ _ _ _ _
      | exact LeO.none _
      | refine LeO.ite ?_ ?_
      | refine LeO.bind ?_ (fun _ => ?_)
theorem spec_l1All.mono : ∀ a0 a1 a2 k, LeO (spec_l1All.f k a0 a1 a2) (spec_l1All.f (k + 1) a0 a1 a2) := by
  intro a0 a1 a2 k
  have ih0 := spec_l1All.mono_l k
  unfold spec_l1All.f
  repeat' first
      | (with_reducible exact ih0 _ _ _ _ _)
      | (with_reducible exact LeO.refl _)
      | (with_reducible exact LeO.none _)
      | (with_reducible refine LeO.ite ?_ ?_)
      | (with_reducible refine LeO.bind ?_ (fun _ => ?_))
      | exact ih0 _ _ _ _ _
      | exact LeO.none _
      | refine LeO.ite ?_ ?_
      | refine LeO.bind ?_ (fun _ => ?_)
set_option maxHeartbeats 8000000 in
set_option maxRecDepth 100000 in
theorem spec_l1All.calls (k : Nat) (A0 : Option Addr) (c0 : Nat) (l0 : List Int) (a1 : Int) (a2 : Int) (r : Bool) (w : World) (hr0 : Kd.C (Kd.int .i64) w A0 l0.length l0) (hc0 : l0.length ≤ c0) (h : spec_l1All.f k l0 a1 a2 = some r) :
    Calls Try.prog 196 #[.slice A0 l0.length c0, .int .i64 a1, .int .i64 a2] w fun e w' => e = .returned (.bool r) ∧ Drawn0 w w' := by
  have HR0 := Aside0.mk hr0
  have HC0 := Aside0.mk hc0
  clear hr0 hc0
  have H : (spec_l1All.l0 k a1 a2 l0 (l0.length : Int) 0) = some r := h
  clear h
  have H' := Aside0.mk H
  clear H
  go_enter Try.func196, Try.ntmps196
  go_wp2
  go_loopg [11] k (fun kq v11 w' => ∃ (x11_1 : Int), v11 = .int .i64 x11_1 ∧ Aside0 (spec_l1All.l0 kq a1 a2 l0 (l0.length : Int) x11_1 = some r) ∧ Aside0 (kq ≤ k) ∧ Drawn0 w w')
  case atStart => exact ⟨(0), (by first | rfl | (simp; done) | (simp [*]; done)), H', ⟨Nat.le_refl _⟩, by repeat (first | exact Drawn0.refl _ | apply Drawn0.step)⟩
  case round =>
    clear H'
    try clear c1
    try clear p2
    obtain ⟨x11_1, rfl, HA, HK1, ⟨m1, rfl⟩⟩ := hrel
    cases gk with
    | zero => exact absurd HA.out (by simp [spec_l1All.l0])
    | succ k1 =>
      have H := HA.out
      clear HA
      simp only [spec_l1All.l0] at H
      by_cases c4 : x11_1 < (l0.length : Int)
      · rw [if_pos c4] at H
        have c4b0 : decide (x11_1 < (l0.length : Int)) = true := decide_eq_true c4
        clear c4
        by_cases c5 : 0 ≤ x11_1
        · rw [if_pos c5] at H
          have c5b0 : decide (0 ≤ x11_1) = true := decide_eq_true c5
          clear c5
          by_cases c6 : x11_1 < (l0.length : Int)
          · rw [if_pos c6] at H
            have c6b0 : decide (x11_1 < (l0.length : Int)) = true := decide_eq_true c6
            clear c6
            replace H := Option.bind_eq_some_iff.mp H
            obtain ⟨t227, A70, H⟩ := H
            replace H : (if t227 = true then (spec_l1All.l0 k1 a1 a2 l0 (l0.length : Int) (wrap64 (x11_1 + 1))) else (some false)) = some r := H
            have A7 := Aside0.mk A70
            clear A70
            by_cases c8 : t227 = true
            · subst c8
              have H1 : (spec_l1All.l0 k1 a1 a2 l0 (l0.length : Int) (wrap64 (x11_1 + 1))) = some r := by rw [if_pos rfl] at H; exact H
              clear H
              have H := H1
              clear H1
              have H' := Aside0.mk H
              clear H
              have p226 : 0 ≤ (x11_1 : Int) := of_decide_eq_true (by first | (with_reducible assumption) | assumption)
              have q226 : x11_1 < (l0.length : Int) := of_decide_eq_true (by first | (with_reducible assumption) | assumption)
              obtain ⟨ad226, e226, hx226_0⟩ := Kd.at_int HR0.out x11_1 p226 q226
              cases e226
              replace p226 := eq_true p226
              replace q226 := eq_true q226
              go_wp2_with (first | ((with_reducible refine gate_callee (f := 195) rfl ?_); refine goesL_ (some 18) rfl rfl Try.func195 (by kernel_rfl) rfl #[.int .i64 (rd l0 x11_1), .int .i64 a1, .int .i64 a2] rfl (by (try simp only [List.map_toArray, List.map_cons, List.map_nil]); first | done | rfl | (simp only [List.length_drop, List.length_take]; rfl)) ?_; (with_reducible refine (spec_l1In.calls (rd l0 x11_1) a1 a2 true _ A7.out).mono ?_); rintro e w' ⟨rfl, ⟨nd, rfl⟩⟩; refine ⟨_, rfl, ?_⟩))
              go_roundg k1
              case measure => have := HK1.out; omega
              case rel => exact ⟨(wrap64 (x11_1 + 1)), (by first | rfl | (simp; done) | (simp [*]; done)), H', ⟨by have := HK1.out; omega⟩, by repeat (first | exact Drawn0.refl _ | apply Drawn0.step)⟩
            · replace c8 := Bool.eq_false_iff.mpr c8
              subst c8
              have H1 : (some false) = some r := by rw [if_neg (show ¬ (false = true) by decide)] at H; exact H
              clear H
              have H := H1
              clear H1
              obtain rfl := Option.some.inj H
              have p226 : 0 ≤ (x11_1 : Int) := of_decide_eq_true (by first | (with_reducible assumption) | assumption)
              have q226 : x11_1 < (l0.length : Int) := of_decide_eq_true (by first | (with_reducible assumption) | assumption)
              obtain ⟨ad226, e226, hx226_0⟩ := Kd.at_int HR0.out x11_1 p226 q226
              cases e226
              replace p226 := eq_true p226
              replace q226 := eq_true q226
              go_wp2_with (first | ((with_reducible refine gate_callee (f := 195) rfl ?_); refine goesL_ (some 18) rfl rfl Try.func195 (by kernel_rfl) rfl #[.int .i64 (rd l0 x11_1), .int .i64 a1, .int .i64 a2] rfl (by (try simp only [List.map_toArray, List.map_cons, List.map_nil]); first | done | rfl | (simp only [List.length_drop, List.length_take]; rfl)) ?_; (with_reducible refine (spec_l1In.calls (rd l0 x11_1) a1 a2 false _ A7.out).mono ?_); rintro e w' ⟨rfl, ⟨nd, rfl⟩⟩; refine ⟨_, rfl, ?_⟩))
              go_ret
              exact ⟨by first | rfl | (simp; done) | (simp [*]; done), by repeat (first | exact Drawn0.refl _ | apply Drawn0.step)⟩
          · rw [if_neg c6] at H
            exact absurd H (by simp)
        · rw [if_neg c5] at H
          exact absurd H (by simp)
      · rw [if_neg c4] at H
        have c4b0 : decide (x11_1 < (l0.length : Int)) = false := decide_eq_false c4
        clear c4
        obtain rfl := Option.some.inj H
        go_wp2
        go_ret
        exact ⟨by first | rfl | (simp; done) | (simp [*]; done), by repeat (first | exact Drawn0.refl _ | apply Drawn0.step)⟩

end Go.Proofs.Ytllnieknogficaa.K
namespace Go.Proofs.Ytllnieknogficaa.K
open Go.RowKit Go.Proofs.YtllnieknogficaaW.PrintWords Go.Proofs.YtllnieknogficaaW.PrintLast Go.Proofs.YtllnieknogficaaW.PrintMore
attribute [local go_sem] max2_int min2_int max_two min_two max_three min_three max_four min_four   -- for this text's walks alone
set_option linter.unusedVariables false
set_option linter.unusedSimpArgs false

/-! ### spec_plGood: function 125 -/
def spec_plGood.l0 : Nat → List (List Int) → List (List Int) → Int → Int → Option (Bool)
  | 0, _, _, _, _ => none
  | k + 1, x0, x9, x10, x11 => if x11 < x10 then (if 0 ≤ x11 then (if x11 < (x9.length : Int) then (if ((rd_L2 x9 x11).length : Int) = (x0.length : Int) then ((spec_l1All.f k (rd_L2 x9 x11) 0 60).bind fun t384 => (if t384 = true then (spec_plGood.l0 k x0 x9 x10 (wrap64 (x11 + 1))) else (some false))) else (some false)) else (none)) else (none)) else (some true)
def spec_plGood.f (k : Nat) (l0 : List (List Int)) : Option (Bool) := (spec_l1In.f (l0.length : Int) 1 8).bind fun t382 => (if t382 = true then (spec_plGood.l0 k l0 l0 (l0.length : Int) 0) else (some false))
theorem spec_plGood.mono_l : ∀ k, (∀ y0 y1 y2 y3, LeO (spec_plGood.l0 k y0 y1 y2 y3) (spec_plGood.l0 (k + 1) y0 y1 y2 y3))
  | 0 => fun _ _ _ _ r h => by simp [spec_plGood.l0] at h
  | k + 1 => by
    have ih0 := spec_plGood.mono_l k
    · intro y0 y1 y2 y3
      unfold spec_plGood.l0
      repeat' first
      | (with_reducible exact ih0 _ _ _ _)
      | (with_reducible exact spec_l1All.mono _ _ _ _)
      | (with_reducible exact LeO.refl _)
      | (with_reducible exact LeO.none _)
      | (with_reducible refine LeO.ite ?_ ?_)
      | (with_reducible refine LeO.bind ?_ (fun _ => ?_))
      | exact ih0 _ _ _ _
      | exact spec_l1All.mono _ _ _ _
      | exact LeO.none _
      | refine LeO.ite ?_ ?_
      | refine LeO.bind ?_ (fun _ => ?_)
theorem spec_plGood.mono : ∀ a0 k, LeO (spec_plGood.f k a0) (spec_plGood.f (k + 1) a0) := by
  intro a0 k
  have ih0 := spec_plGood.mono_l k
  unfold spec_plGood.f
  repeat' first
      | (with_reducible exact ih0 _ _ _ _)
      | (with_reducible exact spec_l1All.mono _ _ _ _)
      | (with_reducible exact LeO.refl _)
      | (with_reducible exact LeO.none _)
      | (with_reducible refine LeO.ite ?_ ?_)
      | (with_reducible refine LeO.bind ?_ (fun _ => ?_))
      | exact ih0 _ _ _ _
      | exact spec_l1All.mono _ _ _ _
      | exact LeO.none _
      | refine LeO.ite ?_ ?_
      | refine LeO.bind ?_ (fun _ => ?_)
set_option maxHeartbeats 8000000 in
set_option maxRecDepth 100000 in
theorem spec_plGood.calls (k : Nat) (A0 : Option Addr) (c0 : Nat) (l0 : List (List Int)) (r : Bool) (w : World) (hr0 : Kd.C (Kd.slice 3 (Kd.int .i64)) w A0 l0.length l0) (hc0 : l0.length ≤ c0) (h : spec_plGood.f k l0 = some r) :
    Calls Try.prog 125 #[.slice A0 l0.length c0] w fun e w' => e = .returned (.bool r) ∧ Drawn0 w w' := by
  have HR0 := Aside0.mk hr0
  have HC0 := Aside0.mk hc0
  clear hr0 hc0
  have H : ((spec_l1In.f (l0.length : Int) 1 8).bind fun t382 => (if t382 = true then (spec_plGood.l0 k l0 l0 (l0.length : Int) 0) else (some false))) = some r := h
  clear h
  replace H := Option.bind_eq_some_iff.mp H
  obtain ⟨t382, A20, H⟩ := H
  replace H : (if t382 = true then (spec_plGood.l0 k l0 l0 (l0.length : Int) 0) else (some false)) = some r := H
  have A2 := Aside0.mk A20
  clear A20
  by_cases c3 : t382 = true
  · subst c3
    have H1 : (spec_plGood.l0 k l0 l0 (l0.length : Int) 0) = some r := by rw [if_pos rfl] at H; exact H
    clear H
    have H := H1
    clear H1
    have H' := Aside0.mk H
    clear H
    go_enter Try.func125, Try.ntmps125
    go_wp2_with (first | ((with_reducible refine gate_callee (f := 195) rfl ?_); refine goesL_ (some 7) rfl rfl Try.func195 (by kernel_rfl) rfl #[.int .i64 (l0.length : Int), .int .i64 1, .int .i64 8] rfl (by (try simp only [List.map_toArray, List.map_cons, List.map_nil]); first | done | rfl | (simp only [List.length_drop, List.length_take]; rfl)) ?_; (with_reducible refine (spec_l1In.calls (l0.length : Int) 1 8 true _ A2.out).mono ?_); rintro e w' ⟨rfl, ⟨nd, rfl⟩⟩; refine ⟨_, rfl, ?_⟩))
    go_loopg [11] k (fun kq v11 w' => ∃ (x11_1 : Int), v11 = .int .i64 x11_1 ∧ Aside0 (spec_plGood.l0 kq l0 l0 (l0.length : Int) x11_1 = some r) ∧ Aside0 (kq ≤ k) ∧ Drawn0 w w')
    case atStart => exact ⟨(0), (by first | rfl | (simp; done) | (simp [*]; done)), H', ⟨Nat.le_refl _⟩, by repeat (first | exact Drawn0.refl _ | apply Drawn0.step)⟩
    case round =>
      clear H'
      try clear c1
      try clear p2
      try clear c3
      obtain ⟨x11_1, rfl, HA, HK1, ⟨m1, rfl⟩⟩ := hrel
      cases gk with
      | zero => exact absurd HA.out (by simp [spec_plGood.l0])
      | succ k1 =>
        have H := HA.out
        clear HA
        simp only [spec_plGood.l0] at H
        by_cases c4 : x11_1 < (l0.length : Int)
        · rw [if_pos c4] at H
          have c4b0 : decide (x11_1 < (l0.length : Int)) = true := decide_eq_true c4
          clear c4
          by_cases c5 : 0 ≤ x11_1
          · rw [if_pos c5] at H
            have c5b0 : decide (0 ≤ x11_1) = true := decide_eq_true c5
            clear c5
            by_cases c6 : x11_1 < (l0.length : Int)
            · rw [if_pos c6] at H
              have c6b0 : decide (x11_1 < (l0.length : Int)) = true := decide_eq_true c6
              clear c6
              by_cases c7 : ((rd_L2 l0 x11_1).length : Int) = (l0.length : Int)
              · rw [if_pos c7] at H
                have c7b0 : (((rd_L2 l0 x11_1).length : Int) == (l0.length : Int)) = true := beq_iff_eq.mpr c7
                have c7b1 : (((rd_L2 l0 x11_1).length : Int) != (l0.length : Int)) = false := bne_eq_false_iff_eq.mpr c7
                have c7b2 : ((rd_L2 l0 x11_1).length == l0.length) = true := by first | simpa using c7 | (simp at c7 ⊢; omega)
                clear c7
                replace H := Option.bind_eq_some_iff.mp H
                obtain ⟨t384, A80, H⟩ := H
                replace H : (if t384 = true then (spec_plGood.l0 k1 l0 l0 (l0.length : Int) (wrap64 (x11_1 + 1))) else (some false)) = some r := H
                have A8 := Aside0.mk A80
                clear A80
                by_cases c9 : t384 = true
                · subst c9
                  have H1 : (spec_plGood.l0 k1 l0 l0 (l0.length : Int) (wrap64 (x11_1 + 1))) = some r := by rw [if_pos rfl] at H; exact H
                  clear H
                  have H := H1
                  clear H1
                  have H' := Aside0.mk H
                  clear H
                  have p383 : 0 ≤ (x11_1 : Int) := of_decide_eq_true (by first | (with_reducible assumption) | assumption)
                  have q383 : x11_1 < (l0.length : Int) := of_decide_eq_true (by first | (with_reducible assumption) | assumption)
                  obtain ⟨ad383, A383_0, c383_0, e383, hx383_0, hl383_0, hi383_0⟩ := at_L2 HR0.out x11_1 p383 q383
                  cases e383
                  have HR383_0 := Aside0.mk hi383_0
                  have HC383_0 := Aside0.mk hl383_0
                  clear hi383_0 hl383_0
                  replace p383 := eq_true p383
                  replace q383 := eq_true q383
                  go_wp2_with (first | (go_at_call 196; (with_reducible refine (spec_l1All.calls k1 _ _ (rd_L2 l0 x11_1) 0 60 true _ ?side1 ?side2 A8.out).mono ?_); (case side1 => repeat (first | exact HR383_0.out | (with_reducible refine Kd.C_alloc ?_ _) | (with_reducible refine Kd.C_drewN ?_ _) | (with_reducible refine Kd.C_drew ?_))); (case side2 => exact HC383_0.out); rintro e w' ⟨rfl, ⟨nd, rfl⟩⟩))
                  go_roundg k1
                  case measure => have := HK1.out; omega
                  case rel => exact ⟨(wrap64 (x11_1 + 1)), (by first | rfl | (simp; done) | (simp [*]; done)), H', ⟨by have := HK1.out; omega⟩, by repeat (first | exact Drawn0.refl _ | apply Drawn0.step)⟩
                · replace c9 := Bool.eq_false_iff.mpr c9
                  subst c9
                  have H1 : (some false) = some r := by rw [if_neg (show ¬ (false = true) by decide)] at H; exact H
                  clear H
                  have H := H1
                  clear H1
                  obtain rfl := Option.some.inj H
                  have p383 : 0 ≤ (x11_1 : Int) := of_decide_eq_true (by first | (with_reducible assumption) | assumption)
                  have q383 : x11_1 < (l0.length : Int) := of_decide_eq_true (by first | (with_reducible assumption) | assumption)
                  obtain ⟨ad383, A383_0, c383_0, e383, hx383_0, hl383_0, hi383_0⟩ := at_L2 HR0.out x11_1 p383 q383
                  cases e383
                  have HR383_0 := Aside0.mk hi383_0
                  have HC383_0 := Aside0.mk hl383_0
                  clear hi383_0 hl383_0
                  replace p383 := eq_true p383
                  replace q383 := eq_true q383
                  go_wp2_with (first | (go_at_call 196; (with_reducible refine (spec_l1All.calls k1 _ _ (rd_L2 l0 x11_1) 0 60 false _ ?side1 ?side2 A8.out).mono ?_); (case side1 => repeat (first | exact HR383_0.out | (with_reducible refine Kd.C_alloc ?_ _) | (with_reducible refine Kd.C_drewN ?_ _) | (with_reducible refine Kd.C_drew ?_))); (case side2 => exact HC383_0.out); rintro e w' ⟨rfl, ⟨nd, rfl⟩⟩))
                  go_ret
                  exact ⟨by first | rfl | (simp; done) | (simp [*]; done), by repeat (first | exact Drawn0.refl _ | apply Drawn0.step)⟩
              · rw [if_neg c7] at H
                have c7b0 : (((rd_L2 l0 x11_1).length : Int) == (l0.length : Int)) = false := beq_eq_false_iff_ne.mpr c7
                have c7b1 : (((rd_L2 l0 x11_1).length : Int) != (l0.length : Int)) = true := bne_iff_ne.mpr c7
                have c7b2 : ((rd_L2 l0 x11_1).length == l0.length) = false := by first | simpa using c7 | (simp at c7 ⊢; omega)
                obtain rfl := Option.some.inj H
                have p383 : 0 ≤ (x11_1 : Int) := of_decide_eq_true (by first | (with_reducible assumption) | assumption)
                have q383 : x11_1 < (l0.length : Int) := of_decide_eq_true (by first | (with_reducible assumption) | assumption)
                obtain ⟨ad383, A383_0, c383_0, e383, hx383_0, hl383_0, hi383_0⟩ := at_L2 HR0.out x11_1 p383 q383
                cases e383
                have HR383_0 := Aside0.mk hi383_0
                have HC383_0 := Aside0.mk hl383_0
                clear hi383_0 hl383_0
                replace p383 := eq_true p383
                replace q383 := eq_true q383
                go_wp2
                go_ret
                exact ⟨by first | rfl | (simp; done) | (simp [*]; done), by repeat (first | exact Drawn0.refl _ | apply Drawn0.step)⟩
            · rw [if_neg c6] at H
              exact absurd H (by simp)
          · rw [if_neg c5] at H
            exact absurd H (by simp)
        · rw [if_neg c4] at H
          have c4b0 : decide (x11_1 < (l0.length : Int)) = false := decide_eq_false c4
          clear c4
          obtain rfl := Option.some.inj H
          go_wp2
          go_ret
          exact ⟨by first | rfl | (simp; done) | (simp [*]; done), by repeat (first | exact Drawn0.refl _ | apply Drawn0.step)⟩
  · replace c3 := Bool.eq_false_iff.mpr c3
    subst c3
    have H1 : (some false) = some r := by rw [if_neg (show ¬ (false = true) by decide)] at H; exact H
    clear H
    have H := H1
    clear H1
    obtain rfl := Option.some.inj H
    go_enter Try.func125, Try.ntmps125
    go_wp2_with (first | ((with_reducible refine gate_callee (f := 195) rfl ?_); refine goesL_ (some 7) rfl rfl Try.func195 (by kernel_rfl) rfl #[.int .i64 (l0.length : Int), .int .i64 1, .int .i64 8] rfl (by (try simp only [List.map_toArray, List.map_cons, List.map_nil]); first | done | rfl | (simp only [List.length_drop, List.length_take]; rfl)) ?_; (with_reducible refine (spec_l1In.calls (l0.length : Int) 1 8 false _ A2.out).mono ?_); rintro e w' ⟨rfl, ⟨nd, rfl⟩⟩; refine ⟨_, rfl, ?_⟩))
    go_ret
    exact ⟨by first | rfl | (simp; done) | (simp [*]; done), by repeat (first | exact Drawn0.refl _ | apply Drawn0.step)⟩

end Go.Proofs.Ytllnieknogficaa.K
namespace Go.Proofs.Ytllnieknogficaa.K
open Go.RowKit Go.Proofs.YtllnieknogficaaW.PrintWords Go.Proofs.YtllnieknogficaaW.PrintLast Go.Proofs.YtllnieknogficaaW.PrintMore
attribute [local go_sem] max2_int min2_int max_two min_two max_three min_three max_four min_four   -- for this text's walks alone
set_option linter.unusedVariables false
set_option linter.unusedSimpArgs false
/-- A plan: from 1 to 8 rows, each with as many numbers from 0 to 60. -/
def planB (l : List (List Int)) : Bool := decide (1 ≤ l.length) && decide (l.length ≤ 8) && l.all (impl_isPlan.p l.length)
theorem isPlan_f (l : List (List Int)) : impl_isPlan.f l = some (planB l) := rfl
theorem planB_iff (l : List (List Int)) : planB l = true ↔ 1 ≤ l.length ∧ l.length ≤ 8 ∧ ∀ r ∈ l, r.length = l.length ∧ ∀ x ∈ r, 0 ≤ x ∧ x ≤ 60 := by
  simp [planB, impl_isPlan.p, List.all_eq_true, and_assoc]
theorem l1All_l0 (l : List Int) (a b : Int) (hl : l.length ≤ 4611686018427387904) : ∀ d (i : Nat), i ≤ l.length → l.length - i = d →
    Ev (fun k => spec_l1All.l0 k a b l (l.length : Int) (i : Int)) ((l.drop i).all fun x => decide (a ≤ x) && decide (x ≤ b)) := by
  intro d
  induction d with
  | zero =>
    intro i hi hd
    have : i = l.length := by omega
    subst this
    refine ev_succ ?_
    simp only [spec_l1All.l0, if_neg (Int.lt_irrefl _), List.drop_length]
    exact ev_now _ _ rfl
  | succ d ih =>
    intro i hi hd
    have hlt : i < l.length := by omega
    have h1 : (i : Int) < (l.length : Int) := by omega
    have h2 : (0 : Int) ≤ (i : Int) := by omega
    refine ev_succ ?_
    simp only [spec_l1All.l0, if_pos h1, if_pos h2, rd_nat l i hlt, wrap64_nat_succ (show i < 9223372036854775807 by omega)]
    rw [List.drop_eq_getElem_cons hlt, List.all_cons]
    unfold spec_l1In.f
    by_cases h3 : a ≤ l[i]
    · by_cases h4 : l[i] ≤ b
      · simp only [ge_iff_le, if_pos h3, decide_eq_true h3, decide_eq_true h4, Option.bind_some, if_true, Bool.and_self, Bool.true_and]
        exact ih (i + 1) (by omega) (by omega)
      · simp only [ge_iff_le, if_pos h3, decide_eq_false h4, Option.bind_some, Bool.and_false, Bool.false_and]
        exact ev_now _ _ rfl
    · simp only [ge_iff_le, if_neg h3, decide_eq_false h3, Option.bind_some, Bool.false_and]
      exact ev_now _ _ rfl
theorem l1All_ev (l : List Int) (a b : Int) (hl : l.length ≤ 4611686018427387904) : Ev (fun k => spec_l1All.f k l a b) (l.all fun x => decide (a ≤ x) && decide (x ≤ b)) := by
  unfold spec_l1All.f
  have := l1All_l0 l a b hl l.length 0 (by omega) (by omega)
  simpa using this
theorem plGood_l0 (l : List (List Int)) (hl : l.length ≤ 8) : ∀ d (i : Nat), i ≤ l.length → l.length - i = d →
    Ev (fun k => spec_plGood.l0 k l l (l.length : Int) (i : Int)) ((l.drop i).all (impl_isPlan.p l.length)) := by
  intro d
  induction d with
  | zero =>
    intro i hi hd
    have : i = l.length := by omega
    subst this
    refine ev_succ ?_
    simp only [spec_plGood.l0, if_neg (Int.lt_irrefl _), List.drop_length]
    exact ev_now _ _ rfl
  | succ d ih =>
    intro i hi hd
    have hlt : i < l.length := by omega
    have h1 : (i : Int) < (l.length : Int) := by omega
    have h2 : (0 : Int) ≤ (i : Int) := by omega
    refine ev_succ ?_
    simp only [spec_plGood.l0, if_pos h1, if_pos h2, rdL_nat l i hlt, wrap64_nat_succ (show i < 9223372036854775807 by omega)]
    rw [List.drop_eq_getElem_cons hlt, List.all_cons]
    by_cases h3 : l[i].length = l.length
    · have h4 : ((l[i].length : Nat) : Int) = (l.length : Int) := by omega
      have hp : impl_isPlan.p l.length l[i] = l[i].all fun x => decide (0 ≤ x) && decide (x ≤ 60) := by simp [impl_isPlan.p, h3]
      simp only [if_pos h4]
      refine Ev.bind (l1All_ev l[i] 0 60 (by omega)) ?_
      rw [hp]
      cases hq : l[i].all fun x => decide (0 ≤ x) && decide (x ≤ 60) with
      | true => simp only [if_true, Bool.true_and]; exact ih (i + 1) (by omega) (by omega)
      | false => exact ev_now _ _ rfl
    · have h4 : ¬ (((l[i].length : Nat) : Int) = (l.length : Int)) := by omega
      have hp : impl_isPlan.p l.length l[i] = false := by simp [impl_isPlan.p, h3]
      simp only [if_neg h4, hp, Bool.false_and]
      exact ev_now _ _ rfl
theorem plGood_ev (l : List (List Int)) : Ev (fun k => spec_plGood.f k l) (planB l) := by
  unfold spec_plGood.f spec_l1In.f planB
  by_cases h1 : 1 ≤ l.length
  · have h1' : (l.length : Int) ≥ 1 := by omega
    by_cases h2 : l.length ≤ 8
    · have h2' : (l.length : Int) ≤ 8 := by omega
      simp only [if_pos h1', decide_eq_true h2', Option.bind_some, if_true, decide_eq_true h1, decide_eq_true h2, Bool.true_and]
      have := plGood_l0 l h2 l.length 0 (by omega) (by omega)
      simpa using this
    · have h2' : ¬ (l.length : Int) ≤ 8 := by omega
      simp only [if_pos h1', decide_eq_false h2', Option.bind_some, decide_eq_false h2, Bool.and_false, Bool.false_and]
      exact ev_now _ _ rfl
  · have h1' : ¬ (l.length : Int) ≥ 1 := by omega
    simp only [if_neg h1', Option.bind_some, decide_eq_false h1, Bool.false_and]
    exact ev_now _ _ rfl
/-! ### rows and columns exchanged -/
def colOf (l : List (List Int)) (j : Nat) : List Int := l.map fun r => r.getD j 0
def turned (l : List (List Int)) : List (List Int) := (List.range l.length).map (colOf l)
theorem colOf_length (l : List (List Int)) (j : Nat) : (colOf l j).length = l.length := by simp [colOf]
theorem turned_length (l : List (List Int)) : (turned l).length = l.length := by simp [turned]
theorem turned_at (l : List (List Int)) (j : Nat) (h : j < l.length) : (turned l)[j]'(by rw [turned_length]; exact h) = colOf l j := by simp [turned]
theorem turned_getD (l : List (List Int)) (j : Nat) (h : j < l.length) : (turned l).getD j [] = colOf l j := by
  rw [List.getD_eq_getElem?_getD, List.getElem?_eq_getElem (by rw [turned_length]; exact h), turned_at l j h]; rfl
theorem colOf_getD (l : List (List Int)) (i j : Nat) : (colOf l j).getD i 0 = (l.getD i []).getD j 0 := by
  simp only [colOf, List.getD_eq_getElem?_getD, List.getElem?_map]
  cases l[i]? <;> simp
theorem colOf_mem (l : List (List Int)) (j : Nat) (h : ∀ r ∈ l, j < r.length) (x : Int) (hx : x ∈ colOf l j) : ∃ r ∈ l, x ∈ r := by
  simp only [colOf, List.mem_map] at hx
  obtain ⟨r, hr, rfl⟩ := hx
  refine ⟨r, hr, ?_⟩
  rw [List.getD_eq_getElem?_getD, List.getElem?_eq_getElem (h r hr)]
  exact List.getElem_mem _
theorem turned_plan (l : List (List Int)) (h : planB l = true) : planB (turned l) = true := by
  obtain ⟨h1, h2, h3⟩ := (planB_iff l).1 h
  refine (planB_iff _).2 ⟨by rw [turned_length]; exact h1, by rw [turned_length]; exact h2, fun r hr => ?_⟩
  simp only [turned, List.mem_map, List.mem_range] at hr
  obtain ⟨j, hj, rfl⟩ := hr
  refine ⟨by rw [colOf_length, turned_length], fun x hx => ?_⟩
  obtain ⟨r, hr, hx⟩ := colOf_mem l j (fun r hr => by rw [(h3 r hr).1]; exact hj) x hx
  exact (h3 r hr).2 x hx
theorem ext_getD {α : Type} (d : α) {a b : List α} (hl : a.length = b.length) (h : ∀ i, i < a.length → a.getD i d = b.getD i d) : a = b := by
  refine List.ext_getElem hl fun i h1 h2 => ?_
  have := h i h1
  rw [List.getD_eq_getElem?_getD, List.getD_eq_getElem?_getD, List.getElem?_eq_getElem h1, List.getElem?_eq_getElem h2] at this
  simpa using this
theorem turned_turned (l : List (List Int)) (h : ∀ r ∈ l, r.length = l.length) : turned (turned l) = l := by
  refine ext_getD [] (by rw [turned_length, turned_length]) fun i hi => ?_
  rw [turned_length, turned_length] at hi
  rw [turned_getD _ _ (by rw [turned_length]; exact hi)]
  have hm : l.getD i [] ∈ l := by rw [List.getD_eq_getElem?_getD, List.getElem?_eq_getElem hi]; exact List.getElem_mem _
  refine ext_getD 0 (by rw [colOf_length, turned_length, h _ hm]) fun j hj => ?_
  rw [colOf_length, turned_length] at hj
  rw [colOf_getD, turned_getD _ _ hj, colOf_getD]
end Go.Proofs.Ytllnieknogficaa.K
namespace Go.Proofs.Ytllnieknogficaa.K
open Go.RowKit Go.Proofs.YtllnieknogficaaW.PrintWords Go.Proofs.YtllnieknogficaaW.PrintLast Go.Proofs.YtllnieknogficaaW.PrintMore
attribute [local go_sem] max2_int min2_int max_two min_two max_three min_three max_four min_four   -- for this text's walks alone
set_option linter.unusedVariables false
set_option linter.unusedSimpArgs false

/-! ### impl_crossing: function 141 -/
mutual
def impl_crossing.l0 : Nat → List (List Int) → List (List Int) → Int → Int → Option (Int × Int × Int × Int × Bool)
  | 0, _, _, _, _ => none
  | k + 1, x0, x11, x12, x13 => if x13 < x12 then (if 0 ≤ x13 then (if x13 < (x11.length : Int) then (impl_crossing.l1 k x0 x13 x11 x12 x13 (rd_L2 x11 x13) ((rd_L2 x11 x13).length : Int) 0) else (none)) else (none)) else (some (0, 0, 0, 0, false))
def impl_crossing.l1 : Nat → List (List Int) → Int → List (List Int) → Int → Int → List Int → Int → Int → Option (Int × Int × Int × Int × Bool)
  | 0, _, _, _, _, _, _, _, _ => none
  | k + 1, x0, x5, x11, x12, x13, x18, x19, x20 => if x20 < x19 then (if 0 ≤ x20 then (if x20 < (x18.length : Int) then (if (rd x18 x20) = 0 then (impl_crossing.l1 k x0 x5 x11 x12 x13 x18 x19 (wrap64 (x20 + 1))) else (impl_crossing.l2 k x0 x5 x20 (wrap64 (x5 + 1)) x11 x12 x13 x18 x19 x20)) else (none)) else (none)) else (impl_crossing.l0 k x0 x11 x12 (wrap64 (x13 + 1)))
def impl_crossing.l2 : Nat → List (List Int) → Int → Int → Int → List (List Int) → Int → Int → List Int → Int → Int → Option (Int × Int × Int × Int × Bool)
  | 0, _, _, _, _, _, _, _, _, _, _ => none
  | k + 1, x0, x5, x7, x9, x11, x12, x13, x18, x19, x20 => if x9 < (x0.length : Int) then (impl_crossing.l3 k x0 x5 x7 x9 x11 x12 x13 x18 x19 x20 x7 0) else (impl_crossing.l1 k x0 x5 x11 x12 x13 x18 x19 (wrap64 (x20 + 1)))
def impl_crossing.l3 : Nat → List (List Int) → Int → Int → Int → List (List Int) → Int → Int → List Int → Int → Int → Int → Int → Option (Int × Int × Int × Int × Bool)
  | 0, _, _, _, _, _, _, _, _, _, _, _, _ => none
  | k + 1, x0, x5, x7, x9, x11, x12, x13, x18, x19, x20, x35, x36 => if x36 < x35 then (if 0 ≤ x9 then (if x9 < (x0.length : Int) then (if 0 ≤ x36 then (if x36 < ((rd_L2 x0 x9).length : Int) then (if (rd (rd_L2 x0 x9) x36) > 0 then (some (x5, x7, x9, x36, true)) else (impl_crossing.l3 k x0 x5 x7 x9 x11 x12 x13 x18 x19 x20 x35 (wrap64 (x36 + 1)))) else (none)) else (none)) else (none)) else (none)) else (impl_crossing.l2 k x0 x5 x7 (wrap64 (x9 + 1)) x11 x12 x13 x18 x19 x20)
end
def impl_crossing.f (k : Nat) (l0 : List (List Int)) : Option (Int × Int × Int × Int × Bool) := impl_crossing.l0 k l0 l0 (l0.length : Int) 0
theorem impl_crossing.mono_l : ∀ k, (∀ y0 y1 y2 y3, LeO (impl_crossing.l0 k y0 y1 y2 y3) (impl_crossing.l0 (k + 1) y0 y1 y2 y3)) ∧ (∀ y0 y1 y2 y3 y4 y5 y6 y7, LeO (impl_crossing.l1 k y0 y1 y2 y3 y4 y5 y6 y7) (impl_crossing.l1 (k + 1) y0 y1 y2 y3 y4 y5 y6 y7)) ∧ (∀ y0 y1 y2 y3 y4 y5 y6 y7 y8 y9, LeO (impl_crossing.l2 k y0 y1 y2 y3 y4 y5 y6 y7 y8 y9) (impl_crossing.l2 (k + 1) y0 y1 y2 y3 y4 y5 y6 y7 y8 y9)) ∧ (∀ y0 y1 y2 y3 y4 y5 y6 y7 y8 y9 y10 y11, LeO (impl_crossing.l3 k y0 y1 y2 y3 y4 y5 y6 y7 y8 y9 y10 y11) (impl_crossing.l3 (k + 1) y0 y1 y2 y3 y4 y5 y6 y7 y8 y9 y10 y11))
  | 0 => ⟨fun _ _ _ _ r h => by simp [impl_crossing.l0] at h, fun _ _ _ _ _ _ _ _ r h => by simp [impl_crossing.l1] at h, fun _ _ _ _ _ _ _ _ _ _ r h => by simp [impl_crossing.l2] at h, fun _ _ _ _ _ _ _ _ _ _ _ _ r h => by simp [impl_crossing.l3] at h⟩
  | k + 1 => by
    obtain ⟨ih0, ih1, ih2, ih3⟩ := impl_crossing.mono_l k
    refine ⟨?_, ?_, ?_, ?_⟩
    · intro y0 y1 y2 y3
      unfold impl_crossing.l0
      repeat' first
      | (with_reducible exact ih0 _ _ _ _)
      | (with_reducible exact ih1 _ _ _ _ _ _ _ _)
      | (with_reducible exact ih2 _ _ _ _ _ _ _ _ _ _)
      | (with_reducible exact ih3 _ _ _ _ _ _ _ _ _ _ _ _)
      | (with_reducible exact LeO.refl _)
      | (with_reducible exact LeO.none _)
      | (with_reducible refine LeO.ite ?_ ?_)
      | (with_reducible refine LeO.bind ?_ (fun _ => ?_))
      | exact ih0 _ _ _ _
      | exact ih1 _ _ _ _ _ _ _ _
      | exact ih2 _ _ _ _ _ _ _ _ _ _
      | exact ih3 _ _ _ _ _ _ _ _ _ _ _ _
      | exact LeO.none _
      | refine LeO.ite ?_ ?_
      | refine LeO.bind ?_ (fun _ => ?_)
    · intro y0 y1 y2 y3 y4 y5 y6 y7
      unfold impl_crossing.l1
      repeat' first
      | (with_reducible exact ih0 _ _ _ _)
      | (with_reducible exact ih1 _ _ _ _ _ _ _ _)
      | (with_reducible exact ih2 _ _ _ _ _ _ _ _ _ _)
      | (with_reducible exact ih3 _ _ _ _ _ _ _ _ _ _ _ _)
      | (with_reducible exact LeO.refl _)
      | (with_reducible exact LeO.none _)
      | (with_reducible refine LeO.ite ?_ ?_)
      | (with_reducible refine LeO.bind ?_ (fun _ => ?_))
      | exact ih0 _ _ _ _
      | exact ih1 _ _ _ _ _ _ _ _
      | exact ih2 _ _ _ _ _ _ _ _ _ _
      | exact ih3 _ _ _ _ _ _ _ _ _ _ _ _
      | exact LeO.none _
      | refine LeO.ite ?_ ?_
      | refine LeO.bind ?_ (fun _ => ?_)
    · intro y0 y1 y2 y3 y4 y5 y6 y7 y8 y9
      unfold impl_crossing.l2
      repeat' first
      | (with_reducible exact ih0 _ _ _ _)
      | (with_reducible exact ih1 _ _ _ _ _ _ _ _)
      | (with_reducible exact ih2 _ _ _ _ _ _ _ _ _ _)
      | (with_reducible exact ih3 _ _ _ _ _ _ _ _ _ _ _ _)
      | (with_reducible exact LeO.refl _)
      | (with_reducible exact LeO.none _)
      | (with_reducible refine LeO.ite ?_ ?_)
      | (with_reducible refine LeO.bind ?_ (fun _ => ?_))
      | exact ih0 _ _ _ _
      | exact ih1 _ _ _ _ _ _ _ _
      | exact ih2 _ _ _ _ _ _ _ _ _ _
      | exact ih3 _ _ _ _ _ _ _ _ _ _ _ _
      | exact LeO.none _
      | refine LeO.ite ?_ ?_
      | refine LeO.bind ?_ (fun _ => ?_)
    · intro y0 y1 y2 y3 y4 y5 y6 y7 y8 y9 y10 y11
      unfold impl_crossing.l3
      repeat' first
      | (with_reducible exact ih0 _ _ _ _)
      | (with_reducible exact ih1 _ _ _ _ _ _ _ _)
      | (with_reducible exact ih2 _ _ _ _ _ _ _ _ _ _)
      | (with_reducible exact ih3 _ _ _ _ _ _ _ _ _ _ _ _)
      | (with_reducible exact LeO.refl _)
      | (with_reducible exact LeO.none _)
      | (with_reducible refine LeO.ite ?_ ?_)
      | (with_reducible refine LeO.bind ?_ (fun _ => ?_))
      | exact ih0 _ _ _ _
      | exact ih1 _ _ _ _ _ _ _ _
      | exact ih2 _ _ _ _ _ _ _ _ _ _
      | exact ih3 _ _ _ _ _ _ _ _ _ _ _ _
      | exact LeO.none _
      | refine LeO.ite ?_ ?_
      | refine LeO.bind ?_ (fun _ => ?_)
theorem impl_crossing.mono : ∀ a0 k, LeO (impl_crossing.f k a0) (impl_crossing.f (k + 1) a0) := by
  intro a0 k
  obtain ⟨ih0, ih1, ih2, ih3⟩ := impl_crossing.mono_l k
  unfold impl_crossing.f
  repeat' first
      | (with_reducible exact ih0 _ _ _ _)
      | (with_reducible exact ih1 _ _ _ _ _ _ _ _)
      | (with_reducible exact ih2 _ _ _ _ _ _ _ _ _ _)
      | (with_reducible exact ih3 _ _ _ _ _ _ _ _ _ _ _ _)
      | (with_reducible exact LeO.refl _)
      | (with_reducible exact LeO.none _)
      | (with_reducible refine LeO.ite ?_ ?_)
      | (with_reducible refine LeO.bind ?_ (fun _ => ?_))
      | exact ih0 _ _ _ _
      | exact ih1 _ _ _ _ _ _ _ _
      | exact ih2 _ _ _ _ _ _ _ _ _ _
      | exact ih3 _ _ _ _ _ _ _ _ _ _ _ _
      | exact LeO.none _
      | refine LeO.ite ?_ ?_
      | refine LeO.bind ?_ (fun _ => ?_)
set_option maxHeartbeats 8000000 in
set_option maxRecDepth 100000 in
theorem impl_crossing.calls (k : Nat) (A0 : Option Addr) (c0 : Nat) (l0 : List (List Int)) (r1 : Int) (r2 : Int) (r3 : Int) (r4 : Int) (r5 : Bool) (w : World) (hr0 : Kd.C (Kd.slice 3 (Kd.int .i64)) w A0 l0.length l0) (hc0 : l0.length ≤ c0) (h : impl_crossing.f k l0 = some (r1, r2, r3, r4, r5)) :
    Calls Try.prog 141 #[.slice A0 l0.length c0] w fun e w' => e = .returned (.tuple #[.agg #[.int .i64 r1, .int .i64 r2], .agg #[.int .i64 r3, .int .i64 r4], .bool r5]) ∧ Below w.heap.size w w' := by
  have hu70 := Try.underlying70
  have HR0 := Aside0.mk hr0
  have HC0 := Aside0.mk hc0
  clear hr0 hc0
  have HB := Aside0.mk (Below.refl w.heap.size w)
  have H : (impl_crossing.l0 k l0 l0 (l0.length : Int) 0) = some (r1, r2, r3, r4, r5) := h
  clear h
  have H' := Aside0.mk H
  clear H
  go_enter Try.func141, Try.ntmps141
  go_wp2_with (first | ((with_reducible refine gate_dst (N := 2) rfl ?_); refine box_event ?hg (N := 2) ?hd (cs := #[.int .i64 0, .int .i64 0]) (t := 70) ?hr ?_; (case hd => rfl); (case hg => rfl); (case hr => first | (go_simp; done) | (go_simp; rfl)); intro gb644 hg w2 hbox hb; have n0_ := Aside0.mk (below_step (by repeat (first | (with_reducible first | exact HB.out | apply below_alloc | apply pw_below_drewN | apply below_drew1) | exact HB.out)) hb); have n1_ := Aside0.mk (hbox); have n2_ := Aside0.mk ((by rw [hg]; exact (below_size (by repeat (first | (with_reducible first | exact HB.out | apply below_alloc | apply pw_below_drewN | apply below_drew1) | exact HB.out))) : w.heap.size ≤ gb644)); have n3_ := Aside0.mk ((by rw [hg]; exact (below_size (by repeat (first | (with_reducible first | exact HB.out | apply below_alloc | apply pw_below_drewN | apply below_drew1) | exact HB.out))) : w.heap.size ≤ gb644)); clear HB; have HB := n0_; have BK644 := n1_; have GW644 := n2_; have GE644 := n3_; clear n0_ n1_ n2_ n3_; clear hb hbox hg) | ((with_reducible refine gate_dst (N := 3) rfl ?_); refine box_event ?hg (N := 3) ?hd (cs := #[.int .i64 0, .int .i64 0]) (t := 70) ?hr ?_; (case hd => rfl); (case hg => rfl); (case hr => first | (go_simp; done) | (go_simp; rfl)); intro gb645 hg w3 hbox hb; have n0_ := Aside0.mk (blk_below (g := gb644) (o := .cells #[.int .i64 0, .int .i64 0] 70 (0, 0)) (by (with_reducible repeat (first | refine blk_drewN ?_ _ | refine blk_drew ?_ | refine blk_alloc ?_ _)); exact BK644.out) hb); have n1_ := Aside0.mk (below_step (by repeat (first | (with_reducible first | exact HB.out | apply below_alloc | apply pw_below_drewN | apply below_drew1 | refine below_set ?_ GE644.out) | exact HB.out)) hb); have n2_ := Aside0.mk (hbox); have n3_ := Aside0.mk ((by rw [hg]; exact (below_size (by repeat (first | (with_reducible first | exact HB.out | apply below_alloc | apply pw_below_drewN | apply below_drew1 | refine below_set ?_ GE644.out) | exact HB.out))) : w.heap.size ≤ gb645)); have n4_ := Aside0.mk ((by rw [hg]; exact (below_size (by repeat (first | (with_reducible first | exact HB.out | apply below_alloc | apply pw_below_drewN | apply below_drew1 | refine below_set ?_ GE644.out) | exact HB.out))) : w.heap.size ≤ gb645)); have n5_ := Aside0.mk ((by rw [hg]; exact Nat.ne_of_lt (blk_lt (g := gb644) (o := .cells #[.int .i64 0, .int .i64 0] 70 (0, 0)) (by (with_reducible repeat (first | refine blk_drewN ?_ _ | refine blk_drew ?_ | refine blk_alloc ?_ _)); exact BK644.out)) : gb644 ≠ gb645)); have n6_ := Aside0.mk ((by rw [hg]; exact Nat.ne_of_gt (blk_lt (g := gb644) (o := .cells #[.int .i64 0, .int .i64 0] 70 (0, 0)) (by (with_reducible repeat (first | refine blk_drewN ?_ _ | refine blk_drew ?_ | refine blk_alloc ?_ _)); exact BK644.out)) : gb645 ≠ gb644)); clear BK644; clear HB; have BK644 := n0_; have HB := n1_; have BK645 := n2_; have GW645 := n3_; have GE645 := n4_; have NB644_645 := n5_; have NB645_644 := n6_; clear n0_ n1_ n2_ n3_ n4_ n5_ n6_; clear hb hbox hg))
  go_loopg [13] k (fun kq v13 w' => ∃ (x13_1 : Int) (x645000_1 : Int) (x645001_1 : Int) (x646000_1 : Int) (x646001_1 : Int), v13 = .int .i64 x13_1 ∧ Aside0 (impl_crossing.l0 kq l0 l0 (l0.length : Int) x13_1 = some (r1, r2, r3, r4, r5)) ∧ Aside0 (kq ≤ k) ∧ Aside0 (w'.heap[gb644]? = some (.cells #[.int .i64 x645000_1, .int .i64 x645001_1] 70 (0, 0))) ∧ Aside0 (w'.heap[gb645]? = some (.cells #[.int .i64 x646000_1, .int .i64 x646001_1] 70 (0, 0))) ∧ Aside0 (Below w.heap.size w w'))
  case atStart => exact ⟨(0), (0), (0), (0), (0), (by first | rfl | (simp; done) | (simp [*]; done)), H', ⟨Nat.le_refl _⟩, ⟨by (with_reducible repeat (first | refine blk_drewN ?_ _ | refine blk_drew ?_ | refine blk_alloc ?_ _)); exact BK644.out⟩, ⟨by (with_reducible repeat (first | refine blk_drewN ?_ _ | refine blk_drew ?_ | refine blk_alloc ?_ _)); exact BK645.out⟩, ⟨by repeat (first | (with_reducible first | exact HB.out | apply below_alloc | apply pw_below_drewN | apply below_drew1 | refine below_set ?_ GE644.out | refine below_set ?_ GE645.out) | exact HB.out)⟩⟩
  case round =>
    clear H'
    try clear c1
    try clear p2
    obtain ⟨x13_1, x645000_1, x645001_1, x646000_1, x646001_1, rfl, HA, HK1, BK644, BK645, HB⟩ := hrel
    cases gk with
    | zero => exact absurd HA.out (by simp [impl_crossing.l0])
    | succ k1 =>
      have H := HA.out
      clear HA
      simp only [impl_crossing.l0] at H
      by_cases c4 : x13_1 < (l0.length : Int)
      · rw [if_pos c4] at H
        have c4b0 : decide (x13_1 < (l0.length : Int)) = true := decide_eq_true c4
        clear c4
        by_cases c5 : 0 ≤ x13_1
        · rw [if_pos c5] at H
          have c5b0 : decide (0 ≤ x13_1) = true := decide_eq_true c5
          clear c5
          by_cases c6 : x13_1 < (l0.length : Int)
          · rw [if_pos c6] at H
            have c6b0 : decide (x13_1 < (l0.length : Int)) = true := decide_eq_true c6
            clear c6
            have H' := Aside0.mk H
            clear H
            have p646 : 0 ≤ (x13_1 : Int) := of_decide_eq_true (by first | (with_reducible assumption) | assumption)
            have q646 : x13_1 < (l0.length : Int) := of_decide_eq_true (by first | (with_reducible assumption) | assumption)
            obtain ⟨ad646, A646_0, c646_0, e646, hx646_0, hl646_0, hi646_0⟩ := at_L2 HR0.out x13_1 p646 q646
            cases e646
            replace hx646_0 := (HB.out.cell (World.block_lt_of_cell? w _ hx646_0)).trans hx646_0
            have HR646_0 := Aside0.mk hi646_0
            have HC646_0 := Aside0.mk hl646_0
            clear hi646_0 hl646_0
            replace p646 := eq_true p646
            replace q646 := eq_true q646
            go_wp2
            go_loopg [20] k1 (fun kq v20 w' => ∃ (x20_2 : Int) (x645000_2 : Int) (x645001_2 : Int) (x646000_2 : Int) (x646001_2 : Int), v20 = .int .i64 x20_2 ∧ Aside0 (impl_crossing.l1 kq l0 x13_1 l0 (l0.length : Int) x13_1 (rd_L2 l0 x13_1) ((rd_L2 l0 x13_1).length : Int) x20_2 = some (r1, r2, r3, r4, r5)) ∧ Aside0 (kq ≤ k1) ∧ Aside0 (w'.heap[gb644]? = some (.cells #[.int .i64 x645000_2, .int .i64 x645001_2] 70 (0, 0))) ∧ Aside0 (w'.heap[gb645]? = some (.cells #[.int .i64 x646000_2, .int .i64 x646001_2] 70 (0, 0))) ∧ Aside0 (Below w.heap.size w w'))
            case atStart => exact ⟨(0), (x645000_1), (x645001_1), (x646000_1), (x646001_1), (by first | rfl | (simp; done) | (simp [*]; done)), H', ⟨Nat.le_refl _⟩, ⟨by (with_reducible repeat (first | refine blk_drewN ?_ _ | refine blk_drew ?_ | refine blk_alloc ?_ _)); exact BK644.out⟩, ⟨by (with_reducible repeat (first | refine blk_drewN ?_ _ | refine blk_drew ?_ | refine blk_alloc ?_ _)); exact BK645.out⟩, ⟨by repeat (first | (with_reducible first | exact HB.out | apply below_alloc | apply pw_below_drewN | apply below_drew1 | refine below_set ?_ GE644.out | refine below_set ?_ GE645.out) | exact HB.out)⟩⟩
            case round =>
              clear H'
              try clear c1
              try clear p2
              try clear c4
              try clear c4b0
              try clear c5
              try clear c5b0
              try clear c6
              try clear c6b0
              try clear p6
              try clear q6
              try clear hx6
              try clear hx646_0
              try clear p2
              try clear p646
              try clear q646
              obtain ⟨x20_2, x645000_2, x645001_2, x646000_2, x646001_2, rfl, HA, HK2, BK644, BK645, HB⟩ := hrel
              cases gk with
              | zero => exact absurd HA.out (by simp [impl_crossing.l1])
              | succ k2 =>
                have H := HA.out
                clear HA
                simp only [impl_crossing.l1] at H
                by_cases c7 : x20_2 < ((rd_L2 l0 x13_1).length : Int)
                · rw [if_pos c7] at H
                  have c7b0 : decide (x20_2 < ((rd_L2 l0 x13_1).length : Int)) = true := decide_eq_true c7
                  clear c7
                  by_cases c8 : 0 ≤ x20_2
                  · rw [if_pos c8] at H
                    have c8b0 : decide (0 ≤ x20_2) = true := decide_eq_true c8
                    clear c8
                    by_cases c9 : x20_2 < ((rd_L2 l0 x13_1).length : Int)
                    · rw [if_pos c9] at H
                      have c9b0 : decide (x20_2 < ((rd_L2 l0 x13_1).length : Int)) = true := decide_eq_true c9
                      clear c9
                      by_cases c10 : (rd (rd_L2 l0 x13_1) x20_2) = 0
                      · rw [if_pos c10] at H
                        have c10b0 : ((rd (rd_L2 l0 x13_1) x20_2) == 0) = true := beq_iff_eq.mpr c10
                        have c10b1 : ((rd (rd_L2 l0 x13_1) x20_2) != 0) = false := bne_eq_false_iff_eq.mpr c10
                        clear c10
                        have H' := Aside0.mk H
                        clear H
                        have p647 : 0 ≤ (x20_2 : Int) := of_decide_eq_true (by first | (with_reducible assumption) | assumption)
                        have q647 : x20_2 < ((rd_L2 l0 x13_1).length : Int) := of_decide_eq_true (by first | (with_reducible assumption) | assumption)
                        obtain ⟨ad647, e647, hx647_0⟩ := Kd.at_int HR646_0.out x20_2 p647 q647
                        cases e647
                        replace hx647_0 := (HB.out.cell (World.block_lt_of_cell? w _ hx647_0)).trans hx647_0
                        replace p647 := eq_true p647
                        replace q647 := eq_true q647
                        go_wp2
                        go_roundg k2
                        case measure => have := HK1.out; have := HK2.out; omega
                        case rel => exact ⟨(wrap64 (x20_2 + 1)), (x645000_2), (x645001_2), (x646000_2), (x646001_2), (by first | rfl | (simp; done) | (simp [*]; done)), H', ⟨by have := HK1.out; have := HK2.out; omega⟩, ⟨by (with_reducible repeat (first | refine blk_drewN ?_ _ | refine blk_drew ?_ | refine blk_alloc ?_ _)); exact BK644.out⟩, ⟨by (with_reducible repeat (first | refine blk_drewN ?_ _ | refine blk_drew ?_ | refine blk_alloc ?_ _)); exact BK645.out⟩, ⟨by repeat (first | (with_reducible first | exact HB.out | apply below_alloc | apply pw_below_drewN | apply below_drew1 | refine below_set ?_ GE644.out | refine below_set ?_ GE645.out) | exact HB.out)⟩⟩
                      · rw [if_neg c10] at H
                        have c10b0 : ((rd (rd_L2 l0 x13_1) x20_2) == 0) = false := beq_eq_false_iff_ne.mpr c10
                        have c10b1 : ((rd (rd_L2 l0 x13_1) x20_2) != 0) = true := bne_iff_ne.mpr c10
                        have H' := Aside0.mk H
                        clear H
                        have p647 : 0 ≤ (x20_2 : Int) := of_decide_eq_true (by first | (with_reducible assumption) | assumption)
                        have q647 : x20_2 < ((rd_L2 l0 x13_1).length : Int) := of_decide_eq_true (by first | (with_reducible assumption) | assumption)
                        obtain ⟨ad647, e647, hx647_0⟩ := Kd.at_int HR646_0.out x20_2 p647 q647
                        cases e647
                        replace hx647_0 := (HB.out.cell (World.block_lt_of_cell? w _ hx647_0)).trans hx647_0
                        replace p647 := eq_true p647
                        replace q647 := eq_true q647
                        go_wp2
                        go_loopg [9] k2 (fun kq v9 w' => ∃ (x9_3 : Int) (x645000_3 : Int) (x645001_3 : Int) (x646000_3 : Int) (x646001_3 : Int), v9 = .int .i64 x9_3 ∧ Aside0 (impl_crossing.l2 kq l0 x13_1 x20_2 x9_3 l0 (l0.length : Int) x13_1 (rd_L2 l0 x13_1) ((rd_L2 l0 x13_1).length : Int) x20_2 = some (r1, r2, r3, r4, r5)) ∧ Aside0 (kq ≤ k2) ∧ Aside0 (w'.heap[gb644]? = some (.cells #[.int .i64 x645000_3, .int .i64 x645001_3] 70 (0, 0))) ∧ Aside0 (w'.heap[gb645]? = some (.cells #[.int .i64 x646000_3, .int .i64 x646001_3] 70 (0, 0))) ∧ Aside0 (Below w.heap.size w w'))
                        case atStart => exact ⟨(wrap64 (x13_1 + 1)), (x645000_2), (x645001_2), (x646000_2), (x646001_2), (by first | rfl | (simp; done) | (simp [*]; done)), H', ⟨Nat.le_refl _⟩, ⟨by (with_reducible repeat (first | refine blk_drewN ?_ _ | refine blk_drew ?_ | refine blk_alloc ?_ _)); exact BK644.out⟩, ⟨by (with_reducible repeat (first | refine blk_drewN ?_ _ | refine blk_drew ?_ | refine blk_alloc ?_ _)); exact BK645.out⟩, ⟨by repeat (first | (with_reducible first | exact HB.out | apply below_alloc | apply pw_below_drewN | apply below_drew1 | refine below_set ?_ GE644.out | refine below_set ?_ GE645.out) | exact HB.out)⟩⟩
                        case round =>
                          clear H'
                          try clear c1
                          try clear p2
                          try clear c4
                          try clear c4b0
                          try clear c5
                          try clear c5b0
                          try clear c6
                          try clear c6b0
                          try clear p6
                          try clear q6
                          try clear hx6
                          try clear c7
                          try clear c7b0
                          try clear c8
                          try clear c8b0
                          try clear c9
                          try clear c9b0
                          try clear c10
                          try clear c10b0
                          try clear c10b1
                          try clear hx646_0
                          try clear hx647_0
                          try clear p2
                          try clear p6
                          try clear p646
                          try clear p647
                          try clear q6
                          try clear q646
                          try clear q647
                          obtain ⟨x9_3, x645000_3, x645001_3, x646000_3, x646001_3, rfl, HA, HK3, BK644, BK645, HB⟩ := hrel
                          cases gk with
                          | zero => exact absurd HA.out (by simp [impl_crossing.l2])
                          | succ k3 =>
                            have H := HA.out
                            clear HA
                            simp only [impl_crossing.l2] at H
                            by_cases c11 : x9_3 < (l0.length : Int)
                            · rw [if_pos c11] at H
                              have c11b0 : decide (x9_3 < (l0.length : Int)) = true := decide_eq_true c11
                              clear c11
                              have H' := Aside0.mk H
                              clear H
                              go_wp2
                              go_loopg [36] k3 (fun kq v36 w' => ∃ (x36_4 : Int) (x645000_4 : Int) (x645001_4 : Int) (x646000_4 : Int) (x646001_4 : Int), v36 = .int .i64 x36_4 ∧ Aside0 (impl_crossing.l3 kq l0 x13_1 x20_2 x9_3 l0 (l0.length : Int) x13_1 (rd_L2 l0 x13_1) ((rd_L2 l0 x13_1).length : Int) x20_2 x20_2 x36_4 = some (r1, r2, r3, r4, r5)) ∧ Aside0 (kq ≤ k3) ∧ Aside0 (w'.heap[gb644]? = some (.cells #[.int .i64 x645000_4, .int .i64 x645001_4] 70 (0, 0))) ∧ Aside0 (w'.heap[gb645]? = some (.cells #[.int .i64 x646000_4, .int .i64 x646001_4] 70 (0, 0))) ∧ Aside0 (Below w.heap.size w w'))
                              case atStart => exact ⟨(0), (x645000_3), (x645001_3), (x646000_3), (x646001_3), (by first | rfl | (simp; done) | (simp [*]; done)), H', ⟨Nat.le_refl _⟩, ⟨by (with_reducible repeat (first | refine blk_drewN ?_ _ | refine blk_drew ?_ | refine blk_alloc ?_ _)); exact BK644.out⟩, ⟨by (with_reducible repeat (first | refine blk_drewN ?_ _ | refine blk_drew ?_ | refine blk_alloc ?_ _)); exact BK645.out⟩, ⟨by repeat (first | (with_reducible first | exact HB.out | apply below_alloc | apply pw_below_drewN | apply below_drew1 | refine below_set ?_ GE644.out | refine below_set ?_ GE645.out) | exact HB.out)⟩⟩
                              case round =>
                                clear H'
                                try clear c1
                                try clear p2
                                try clear c4
                                try clear c4b0
                                try clear c5
                                try clear c5b0
                                try clear c6
                                try clear c6b0
                                try clear p6
                                try clear q6
                                try clear hx6
                                try clear c7
                                try clear c7b0
                                try clear c8
                                try clear c8b0
                                try clear c9
                                try clear c9b0
                                try clear c10
                                try clear c10b0
                                try clear c10b1
                                try clear c11
                                try clear c11b0
                                try clear hx646_0
                                try clear hx647_0
                                try clear p2
                                try clear p6
                                try clear p646
                                try clear p647
                                try clear q6
                                try clear q646
                                try clear q647
                                obtain ⟨x36_4, x645000_4, x645001_4, x646000_4, x646001_4, rfl, HA, HK4, BK644, BK645, HB⟩ := hrel
                                cases gk with
                                | zero => exact absurd HA.out (by simp [impl_crossing.l3])
                                | succ k4 =>
                                  have H := HA.out
                                  clear HA
                                  simp only [impl_crossing.l3] at H
                                  by_cases c12 : x36_4 < x20_2
                                  · rw [if_pos c12] at H
                                    have c12b0 : decide (x36_4 < x20_2) = true := decide_eq_true c12
                                    clear c12
                                    by_cases c13 : 0 ≤ x9_3
                                    · rw [if_pos c13] at H
                                      have c13b0 : decide (0 ≤ x9_3) = true := decide_eq_true c13
                                      clear c13
                                      by_cases c14 : x9_3 < (l0.length : Int)
                                      · rw [if_pos c14] at H
                                        have c14b0 : decide (x9_3 < (l0.length : Int)) = true := decide_eq_true c14
                                        clear c14
                                        by_cases c15 : 0 ≤ x36_4
                                        · rw [if_pos c15] at H
                                          have c15b0 : decide (0 ≤ x36_4) = true := decide_eq_true c15
                                          clear c15
                                          by_cases c16 : x36_4 < ((rd_L2 l0 x9_3).length : Int)
                                          · rw [if_pos c16] at H
                                            have c16b0 : decide (x36_4 < ((rd_L2 l0 x9_3).length : Int)) = true := decide_eq_true c16
                                            clear c16
                                            by_cases c17 : (rd (rd_L2 l0 x9_3) x36_4) > 0
                                            · rw [if_pos c17] at H
                                              have c17b0 : decide (0 < (rd (rd_L2 l0 x9_3) x36_4)) = true := decide_eq_true c17
                                              clear c17
                                              simp only [Option.some.injEq, Prod.mk.injEq] at H
                                              obtain ⟨rfl, rfl, rfl, rfl, rfl⟩ := H
                                              have p648 : 0 ≤ (x9_3 : Int) := of_decide_eq_true (by first | (with_reducible assumption) | assumption)
                                              have q648 : x9_3 < (l0.length : Int) := of_decide_eq_true (by first | (with_reducible assumption) | assumption)
                                              obtain ⟨ad648, A648_0, c648_0, e648, hx648_0, hl648_0, hi648_0⟩ := at_L2 HR0.out x9_3 p648 q648
                                              obtain rfl : ad646 = ad648 := (by injection e648)
                                              replace hx648_0 := (HB.out.cell (World.block_lt_of_cell? w _ hx648_0)).trans hx648_0
                                              have HR648_0 := Aside0.mk hi648_0
                                              have HC648_0 := Aside0.mk hl648_0
                                              clear hi648_0 hl648_0
                                              replace p648 := eq_true p648
                                              replace q648 := eq_true q648
                                              have p649 : 0 ≤ (x36_4 : Int) := of_decide_eq_true (by first | (with_reducible assumption) | assumption)
                                              have q649 : x36_4 < ((rd_L2 l0 x9_3).length : Int) := of_decide_eq_true (by first | (with_reducible assumption) | assumption)
                                              obtain ⟨ad649, e649, hx649_0⟩ := Kd.at_int HR648_0.out x36_4 p649 q649
                                              cases e649
                                              replace hx649_0 := (HB.out.cell (World.block_lt_of_cell? w _ hx649_0)).trans hx649_0
                                              replace p649 := eq_true p649
                                              replace q649 := eq_true q649
                                              have hnb18 := NB644_645.out
                                              have hnc18 := NB645_644.out
                                              have hcz19_0 : wr.cell? ⟨gb644, 0, none⟩ = some (.int .i64 x645000_4) := (blk_cell BK644.out 0).trans rfl
                                              have hcz19_1 : wr.cell? ⟨gb644, 1, none⟩ = some (.int .i64 x645001_4) := (blk_cell BK644.out 1).trans rfl
                                              have hfz19_0 := blk_frozen BK644.out 0
                                              have hfz19_1 := blk_frozen BK644.out 1
                                              have hcz20_0 : wr.cell? ⟨gb645, 0, none⟩ = some (.int .i64 x646000_4) := (blk_cell BK645.out 0).trans rfl
                                              have hcz20_1 : wr.cell? ⟨gb645, 1, none⟩ = some (.int .i64 x646001_4) := (blk_cell BK645.out 1).trans rfl
                                              have hfz20_0 := blk_frozen BK645.out 0
                                              have hfz20_1 := blk_frozen BK645.out 1
                                              go_wp2
                                              refine bodyPost_ret (results_list (rs := [.cell 2 70, .cell 3 70, .tmp 4]) rfl (by simp) (.cell gb644 70 #[.int .i64 x13_1, .int .i64 x20_2] (0, 0) _ rfl (by (with_reducible repeat (first | refine blk_drewN ?_ _ | refine blk_drew ?_ | refine blk_alloc ?_ _)); refine blk_far ?_ NB644_645.out _; (with_reducible repeat (first | refine blk_drewN ?_ _ | refine blk_drew ?_ | refine blk_alloc ?_ _)); refine blk_far ?_ NB644_645.out _; (with_reducible repeat (first | refine blk_drewN ?_ _ | refine blk_drew ?_ | refine blk_alloc ?_ _)); refine blk_put (cs := #[.int .i64 x13_1, .int .i64 x645001_4]) ?_ 1 _ rfl; (with_reducible repeat (first | refine blk_drewN ?_ _ | refine blk_drew ?_ | refine blk_alloc ?_ _)); refine blk_put (cs := #[.int .i64 x645000_4, .int .i64 x645001_4]) ?_ 0 _ rfl; (with_reducible repeat (first | refine blk_drewN ?_ _ | refine blk_drew ?_ | refine blk_alloc ?_ _)); exact BK644.out) Try.underlying70 rfl (by kernel_rfl) (.cell gb645 70 #[.int .i64 x9_3, .int .i64 x36_4] (0, 0) _ rfl (by (with_reducible repeat (first | refine blk_drewN ?_ _ | refine blk_drew ?_ | refine blk_alloc ?_ _)); refine blk_put (cs := #[.int .i64 x9_3, .int .i64 x646001_4]) ?_ 1 _ rfl; (with_reducible repeat (first | refine blk_drewN ?_ _ | refine blk_drew ?_ | refine blk_alloc ?_ _)); refine blk_put (cs := #[.int .i64 x646000_4, .int .i64 x646001_4]) ?_ 0 _ rfl; (with_reducible repeat (first | refine blk_drewN ?_ _ | refine blk_drew ?_ | refine blk_alloc ?_ _)); refine blk_far ?_ NB645_644.out _; (with_reducible repeat (first | refine blk_drewN ?_ _ | refine blk_drew ?_ | refine blk_alloc ?_ _)); refine blk_far ?_ NB645_644.out _; (with_reducible repeat (first | refine blk_drewN ?_ _ | refine blk_drew ?_ | refine blk_alloc ?_ _)); exact BK645.out) Try.underlying70 rfl (by kernel_rfl) (.tmp .nil)))) rfl ?_
                                              exact ⟨by first | rfl | (simp [errW_none, errW_some] <;> rfl) | (simp [*, errW_none, errW_some] <;> rfl), by repeat (first | (with_reducible first | exact HB.out | apply below_alloc | apply pw_below_drewN | apply below_drew1 | refine below_set ?_ GE644.out | refine below_set ?_ GE645.out) | exact HB.out)⟩
                                            · rw [if_neg c17] at H
                                              have c17b0 : decide (0 < (rd (rd_L2 l0 x9_3) x36_4)) = false := decide_eq_false c17
                                              clear c17
                                              have H' := Aside0.mk H
                                              clear H
                                              have p648 : 0 ≤ (x9_3 : Int) := of_decide_eq_true (by first | (with_reducible assumption) | assumption)
                                              have q648 : x9_3 < (l0.length : Int) := of_decide_eq_true (by first | (with_reducible assumption) | assumption)
                                              obtain ⟨ad648, A648_0, c648_0, e648, hx648_0, hl648_0, hi648_0⟩ := at_L2 HR0.out x9_3 p648 q648
                                              obtain rfl : ad646 = ad648 := (by injection e648)
                                              replace hx648_0 := (HB.out.cell (World.block_lt_of_cell? w _ hx648_0)).trans hx648_0
                                              have HR648_0 := Aside0.mk hi648_0
                                              have HC648_0 := Aside0.mk hl648_0
                                              clear hi648_0 hl648_0
                                              replace p648 := eq_true p648
                                              replace q648 := eq_true q648
                                              have p649 : 0 ≤ (x36_4 : Int) := of_decide_eq_true (by first | (with_reducible assumption) | assumption)
                                              have q649 : x36_4 < ((rd_L2 l0 x9_3).length : Int) := of_decide_eq_true (by first | (with_reducible assumption) | assumption)
                                              obtain ⟨ad649, e649, hx649_0⟩ := Kd.at_int HR648_0.out x36_4 p649 q649
                                              cases e649
                                              replace hx649_0 := (HB.out.cell (World.block_lt_of_cell? w _ hx649_0)).trans hx649_0
                                              replace p649 := eq_true p649
                                              replace q649 := eq_true q649
                                              go_wp2
                                              go_roundg k4
                                              case measure => have := HK1.out; have := HK2.out; have := HK3.out; have := HK4.out; omega
                                              case rel => exact ⟨(wrap64 (x36_4 + 1)), (x645000_4), (x645001_4), (x646000_4), (x646001_4), (by first | rfl | (simp; done) | (simp [*]; done)), H', ⟨by have := HK1.out; have := HK2.out; have := HK3.out; have := HK4.out; omega⟩, ⟨by (with_reducible repeat (first | refine blk_drewN ?_ _ | refine blk_drew ?_ | refine blk_alloc ?_ _)); exact BK644.out⟩, ⟨by (with_reducible repeat (first | refine blk_drewN ?_ _ | refine blk_drew ?_ | refine blk_alloc ?_ _)); exact BK645.out⟩, ⟨by repeat (first | (with_reducible first | exact HB.out | apply below_alloc | apply pw_below_drewN | apply below_drew1 | refine below_set ?_ GE644.out | refine below_set ?_ GE645.out) | exact HB.out)⟩⟩
                                          · rw [if_neg c16] at H
                                            exact absurd H (by simp)
                                        · rw [if_neg c15] at H
                                          exact absurd H (by simp)
                                      · rw [if_neg c14] at H
                                        exact absurd H (by simp)
                                    · rw [if_neg c13] at H
                                      exact absurd H (by simp)
                                  · rw [if_neg c12] at H
                                    have c12b0 : decide (x36_4 < x20_2) = false := decide_eq_false c12
                                    clear c12
                                    have H' := Aside0.mk H
                                    clear H
                                    go_wp2
                                    go_roundg k4
                                    case measure => have := HK1.out; have := HK2.out; have := HK3.out; have := HK4.out; omega
                                    case rel => exact ⟨(wrap64 (x9_3 + 1)), (x645000_4), (x645001_4), (x646000_4), (x646001_4), (by first | rfl | (simp; done) | (simp [*]; done)), H', ⟨by have := HK1.out; have := HK2.out; have := HK3.out; have := HK4.out; omega⟩, ⟨by (with_reducible repeat (first | refine blk_drewN ?_ _ | refine blk_drew ?_ | refine blk_alloc ?_ _)); exact BK644.out⟩, ⟨by (with_reducible repeat (first | refine blk_drewN ?_ _ | refine blk_drew ?_ | refine blk_alloc ?_ _)); exact BK645.out⟩, ⟨by repeat (first | (with_reducible first | exact HB.out | apply below_alloc | apply pw_below_drewN | apply below_drew1 | refine below_set ?_ GE644.out | refine below_set ?_ GE645.out) | exact HB.out)⟩⟩
                            · rw [if_neg c11] at H
                              have c11b0 : decide (x9_3 < (l0.length : Int)) = false := decide_eq_false c11
                              clear c11
                              have H' := Aside0.mk H
                              clear H
                              go_wp2
                              go_roundg k3
                              case measure => have := HK1.out; have := HK2.out; have := HK3.out; omega
                              case rel => exact ⟨(wrap64 (x20_2 + 1)), (x645000_3), (x645001_3), (x646000_3), (x646001_3), (by first | rfl | (simp; done) | (simp [*]; done)), H', ⟨by have := HK1.out; have := HK2.out; have := HK3.out; omega⟩, ⟨by (with_reducible repeat (first | refine blk_drewN ?_ _ | refine blk_drew ?_ | refine blk_alloc ?_ _)); exact BK644.out⟩, ⟨by (with_reducible repeat (first | refine blk_drewN ?_ _ | refine blk_drew ?_ | refine blk_alloc ?_ _)); exact BK645.out⟩, ⟨by repeat (first | (with_reducible first | exact HB.out | apply below_alloc | apply pw_below_drewN | apply below_drew1 | refine below_set ?_ GE644.out | refine below_set ?_ GE645.out) | exact HB.out)⟩⟩
                    · rw [if_neg c9] at H
                      exact absurd H (by simp)
                  · rw [if_neg c8] at H
                    exact absurd H (by simp)
                · rw [if_neg c7] at H
                  have c7b0 : decide (x20_2 < ((rd_L2 l0 x13_1).length : Int)) = false := decide_eq_false c7
                  clear c7
                  have H' := Aside0.mk H
                  clear H
                  go_wp2
                  go_roundg k2
                  case measure => have := HK1.out; have := HK2.out; omega
                  case rel => exact ⟨(wrap64 (x13_1 + 1)), (x645000_2), (x645001_2), (x646000_2), (x646001_2), (by first | rfl | (simp; done) | (simp [*]; done)), H', ⟨by have := HK1.out; have := HK2.out; omega⟩, ⟨by (with_reducible repeat (first | refine blk_drewN ?_ _ | refine blk_drew ?_ | refine blk_alloc ?_ _)); exact BK644.out⟩, ⟨by (with_reducible repeat (first | refine blk_drewN ?_ _ | refine blk_drew ?_ | refine blk_alloc ?_ _)); exact BK645.out⟩, ⟨by repeat (first | (with_reducible first | exact HB.out | apply below_alloc | apply pw_below_drewN | apply below_drew1 | refine below_set ?_ GE644.out | refine below_set ?_ GE645.out) | exact HB.out)⟩⟩
          · rw [if_neg c6] at H
            exact absurd H (by simp)
        · rw [if_neg c5] at H
          exact absurd H (by simp)
      · rw [if_neg c4] at H
        have c4b0 : decide (x13_1 < (l0.length : Int)) = false := decide_eq_false c4
        clear c4
        simp only [Option.some.injEq, Prod.mk.injEq] at H
        obtain ⟨rfl, rfl, rfl, rfl, rfl⟩ := H
        have hnb21 := NB644_645.out
        have hnc21 := NB645_644.out
        have hcz22_0 : wr.cell? ⟨gb644, 0, none⟩ = some (.int .i64 x645000_1) := (blk_cell BK644.out 0).trans rfl
        have hcz22_1 : wr.cell? ⟨gb644, 1, none⟩ = some (.int .i64 x645001_1) := (blk_cell BK644.out 1).trans rfl
        have hfz22_0 := blk_frozen BK644.out 0
        have hfz22_1 := blk_frozen BK644.out 1
        have hcz23_0 : wr.cell? ⟨gb645, 0, none⟩ = some (.int .i64 x646000_1) := (blk_cell BK645.out 0).trans rfl
        have hcz23_1 : wr.cell? ⟨gb645, 1, none⟩ = some (.int .i64 x646001_1) := (blk_cell BK645.out 1).trans rfl
        have hfz23_0 := blk_frozen BK645.out 0
        have hfz23_1 := blk_frozen BK645.out 1
        go_wp2
        refine bodyPost_ret (results_list (rs := [.cell 2 70, .cell 3 70, .tmp 4]) rfl (by simp) (.cell gb644 70 #[.int .i64 0, .int .i64 0] (0, 0) _ rfl (by (with_reducible repeat (first | refine blk_drewN ?_ _ | refine blk_drew ?_ | refine blk_alloc ?_ _)); refine blk_far ?_ NB644_645.out _; (with_reducible repeat (first | refine blk_drewN ?_ _ | refine blk_drew ?_ | refine blk_alloc ?_ _)); refine blk_far ?_ NB644_645.out _; (with_reducible repeat (first | refine blk_drewN ?_ _ | refine blk_drew ?_ | refine blk_alloc ?_ _)); refine blk_put (cs := #[.int .i64 0, .int .i64 x645001_1]) ?_ 1 _ rfl; (with_reducible repeat (first | refine blk_drewN ?_ _ | refine blk_drew ?_ | refine blk_alloc ?_ _)); refine blk_put (cs := #[.int .i64 x645000_1, .int .i64 x645001_1]) ?_ 0 _ rfl; (with_reducible repeat (first | refine blk_drewN ?_ _ | refine blk_drew ?_ | refine blk_alloc ?_ _)); exact BK644.out) Try.underlying70 rfl (by kernel_rfl) (.cell gb645 70 #[.int .i64 0, .int .i64 0] (0, 0) _ rfl (by (with_reducible repeat (first | refine blk_drewN ?_ _ | refine blk_drew ?_ | refine blk_alloc ?_ _)); refine blk_put (cs := #[.int .i64 0, .int .i64 x646001_1]) ?_ 1 _ rfl; (with_reducible repeat (first | refine blk_drewN ?_ _ | refine blk_drew ?_ | refine blk_alloc ?_ _)); refine blk_put (cs := #[.int .i64 x646000_1, .int .i64 x646001_1]) ?_ 0 _ rfl; (with_reducible repeat (first | refine blk_drewN ?_ _ | refine blk_drew ?_ | refine blk_alloc ?_ _)); refine blk_far ?_ NB645_644.out _; (with_reducible repeat (first | refine blk_drewN ?_ _ | refine blk_drew ?_ | refine blk_alloc ?_ _)); refine blk_far ?_ NB645_644.out _; (with_reducible repeat (first | refine blk_drewN ?_ _ | refine blk_drew ?_ | refine blk_alloc ?_ _)); exact BK645.out) Try.underlying70 rfl (by kernel_rfl) (.tmp .nil)))) rfl ?_
        exact ⟨by first | rfl | (simp [errW_none, errW_some] <;> rfl) | (simp [*, errW_none, errW_some] <;> rfl), by repeat (first | (with_reducible first | exact HB.out | apply below_alloc | apply pw_below_drewN | apply below_drew1 | refine below_set ?_ GE644.out | refine below_set ?_ GE645.out) | exact HB.out)⟩

end Go.Proofs.Ytllnieknogficaa.K
namespace Go.Proofs.Ytllnieknogficaa.K
open Go.RowKit Go.Proofs.YtllnieknogficaaW.PrintWords Go.Proofs.YtllnieknogficaaW.PrintLast Go.Proofs.YtllnieknogficaaW.PrintMore
attribute [local go_sem] max2_int min2_int max_two min_two max_three min_three max_four min_four   -- for this text's walks alone
set_option linter.unusedVariables false
set_option linter.unusedSimpArgs false

/-! ### impl_CrossingOf: function 51 -/
def impl_CrossingOf.f (k : Nat) (l0 : List (List Int)) : Option ((List (S70)) × Bool) := (impl_isPlan.f l0).bind fun t650 => (if t650 = true then ((impl_crossing.f k l0).bind fun bt651 => (if bt651.2.2.2.2 = true then (some ((([(⟨bt651.1, bt651.2.1⟩ : S70), (⟨bt651.2.2.1, bt651.2.2.2.1⟩ : S70)] : List (S70))), true)) else (some (([] : List (S70)), false)))) else (some (([] : List (S70)), false)))
theorem impl_CrossingOf.mono : ∀ a0 k, LeO (impl_CrossingOf.f k a0) (impl_CrossingOf.f (k + 1) a0) := by
  intro a0 k
  unfold impl_CrossingOf.f
  repeat' first
      | (with_reducible exact impl_crossing.mono _ _)
      | (with_reducible exact LeO.refl _)
      | (with_reducible exact LeO.none _)
      | (with_reducible refine LeO.ite ?_ ?_)
      | (with_reducible refine LeO.bind ?_ (fun _ => ?_))
      | exact impl_crossing.mono _ _
      | exact LeO.none _
      | refine LeO.ite ?_ ?_
      | refine LeO.bind ?_ (fun _ => ?_)
set_option maxHeartbeats 8000000 in
set_option maxRecDepth 100000 in
theorem impl_CrossingOf.calls (k : Nat) (A0 : Option Addr) (c0 : Nat) (l0 : List (List Int)) (r1 : List (S70)) (r2 : Bool) (w : World) (hr0 : Kd.C (Kd.slice 3 (Kd.int .i64)) w A0 l0.length l0) (hc0 : l0.length ≤ c0) (h : impl_CrossingOf.f k l0 = some (r1, r2)) :
    Calls Try.prog 51 #[.slice A0 l0.length c0] w fun e w' => ∃ v0_ : Value, e = .returned (.tuple #[v0_, .bool r2]) ∧ Kd.R k70 70 w' w.heap.size (fun _ => True) v0_ r1 ∧ Below w.heap.size w w' := by
  have hu70 := Try.underlying70
  have HR0 := Aside0.mk hr0
  have HC0 := Aside0.mk hc0
  clear hr0 hc0
  have HB := Aside0.mk (Below.refl w.heap.size w)
  have H : ((impl_isPlan.f l0).bind fun t650 => (if t650 = true then ((impl_crossing.f k l0).bind fun bt651 => (if bt651.2.2.2.2 = true then (some ((([(⟨bt651.1, bt651.2.1⟩ : S70), (⟨bt651.2.2.1, bt651.2.2.2.1⟩ : S70)] : List (S70))), true)) else (some (([] : List (S70)), false)))) else (some (([] : List (S70)), false)))) = some (r1, r2) := h
  clear h
  replace H := Option.bind_eq_some_iff.mp H
  obtain ⟨t650, A20, H⟩ := H
  replace H : (if t650 = true then ((impl_crossing.f k l0).bind fun bt651 => (if bt651.2.2.2.2 = true then (some ((([(⟨bt651.1, bt651.2.1⟩ : S70), (⟨bt651.2.2.1, bt651.2.2.2.1⟩ : S70)] : List (S70))), true)) else (some (([] : List (S70)), false)))) else (some (([] : List (S70)), false))) = some (r1, r2) := H
  have A2 := Aside0.mk A20
  clear A20
  by_cases c3 : t650 = true
  · subst c3
    have H1 : ((impl_crossing.f k l0).bind fun bt651 => (if bt651.2.2.2.2 = true then (some ((([(⟨bt651.1, bt651.2.1⟩ : S70), (⟨bt651.2.2.1, bt651.2.2.2.1⟩ : S70)] : List (S70))), true)) else (some (([] : List (S70)), false)))) = some (r1, r2) := by rw [if_pos rfl] at H; exact H
    clear H
    have H := H1
    clear H1
    replace H := Option.bind_eq_some_iff.mp H
    obtain ⟨⟨t651, t652, t653, t654, t655⟩, A40, H⟩ := H
    replace H : (if t655 = true then (some ((([(⟨t651, t652⟩ : S70), (⟨t653, t654⟩ : S70)] : List (S70))), true)) else (some (([] : List (S70)), false))) = some (r1, r2) := H
    have A4 := Aside0.mk A40
    clear A40
    by_cases c5 : t655 = true
    · subst c5
      have H1 : (some ((([(⟨t651, t652⟩ : S70), (⟨t653, t654⟩ : S70)] : List (S70))), true)) = some (r1, r2) := by rw [if_pos rfl] at H; exact H
      clear H
      have H := H1
      clear H1
      obtain ⟨y658, hy658⟩ : ∃ y_ : List (S70), y_ = (([(⟨t651, t652⟩ : S70), (⟨t653, t654⟩ : S70)] : List (S70))) := ⟨_, rfl⟩
      replace H : (some (y658, true)) = some (r1, r2) := by first | (rw [hy658]; with_reducible exact H) | (have H2_ := (Option.bind_some _ _).symm.trans H; rw [hy658]; with_reducible exact H2_) | (have H2_ := (Option.bind_some _ _).symm.trans H; with_reducible exact H2_) | with_reducible exact H | (rw [hy658]; exact H) | exact H
      have Ny658 := Aside0.mk hy658
      clear hy658
      simp only [Option.some.injEq, Prod.mk.injEq] at H
      obtain ⟨rfl, rfl⟩ := H
      go_enter Try.func51, Try.ntmps51
      go_wp2_with (first | ((with_reducible refine gate_callee (f := 118) rfl ?_); refine goesL_ (some 8) rfl rfl Try.func118 (by kernel_rfl) rfl #[.slice A0 l0.length c0] rfl (by (try simp only [List.map_toArray, List.map_cons, List.map_nil]); first | done | rfl | (simp only [List.length_drop, List.length_take]; rfl)) ?_; (with_reducible refine (impl_isPlan.calls _ _ l0 true _ ?side1 ?side2 A2.out).mono ?_); (case side1 => repeat (first | exact HR0.out | (with_reducible refine Kd.C_alloc ?_ _) | (with_reducible refine Kd.C_drewN ?_ _) | (with_reducible refine Kd.C_drew ?_))); (case side2 => exact HC0.out); rintro e w6 ⟨rfl, hb⟩; refine ⟨_, rfl, ?_⟩; have n0_ := Aside0.mk (below_step (by repeat (first | (with_reducible first | exact HB.out | apply below_alloc | apply pw_below_drewN | apply below_drew1) | exact HB.out)) hb); clear HB; have HB := n0_; clear n0_; (try clear hb); (try clear hb2); (try clear hk); (try clear hi)) | ((with_reducible refine gate_callee (f := 141) rfl ?_); refine goesL_ (some 12) rfl rfl Try.func141 (by kernel_rfl) rfl #[.slice A0 l0.length c0] rfl (by (try simp only [List.map_toArray, List.map_cons, List.map_nil]); first | done | rfl | (simp only [List.length_drop, List.length_take]; rfl)) ?_; (with_reducible refine (impl_crossing.calls k _ _ l0 t651 t652 t653 t654 true _ ?side1 ?side2 A4.out).mono ?_); (case side1 => repeat (first | exact (Kd.C_below HR0.out HB.out) | (with_reducible refine Kd.C_alloc ?_ _) | (with_reducible refine Kd.C_drewN ?_ _) | (with_reducible refine Kd.C_drew ?_))); (case side2 => exact HC0.out); rintro e w7 ⟨rfl, hb⟩; refine ⟨_, rfl, ?_⟩; have n0_ := Aside0.mk (below_step (by repeat (first | (with_reducible first | exact HB.out | apply below_alloc | apply pw_below_drewN | apply below_drew1) | exact HB.out)) hb); clear HB; have HB := n0_; clear n0_; (try clear hb); (try clear hb2); (try clear hk); (try clear hi)) | ((with_reducible refine gate_dst (N := 4) rfl ?_); refine box_event ?hg (N := 4) ?hd (cs := #[.int .i64 0, .int .i64 0]) (t := 70) ?hr ?_; (case hd => rfl); (case hg => rfl); (case hr => first | (go_simp; done) | (go_simp; rfl)); intro gb656 hg w8 hbox hb; have n0_ := Aside0.mk (below_step (by repeat (first | (with_reducible first | exact HB.out | apply below_alloc | apply pw_below_drewN | apply below_drew1) | exact HB.out)) hb); have n1_ := Aside0.mk (hbox); have n2_ := Aside0.mk ((by rw [hg]; exact (below_size (by repeat (first | (with_reducible first | exact HB.out | apply below_alloc | apply pw_below_drewN | apply below_drew1) | exact HB.out))) : w.heap.size ≤ gb656)); have n3_ := Aside0.mk ((by rw [hg]; exact (below_size (by repeat (first | (with_reducible first | exact HB.out | apply below_alloc | apply pw_below_drewN | apply below_drew1) | exact HB.out))) : w.heap.size ≤ gb656)); clear HB; have HB := n0_; have BK656 := n1_; have GW656 := n2_; have GE656 := n3_; clear n0_ n1_ n2_ n3_; clear hb hbox hg) | ((with_reducible refine gate_dst (N := 5) rfl ?_); refine box_event ?hg (N := 5) ?hd (cs := #[.int .i64 0, .int .i64 0]) (t := 70) ?hr ?_; (case hd => rfl); (case hg => rfl); (case hr => first | (go_simp; done) | (go_simp; rfl)); intro gb657 hg w9 hbox hb; have n0_ := Aside0.mk (blk_below (g := gb656) (o := .cells #[.int .i64 0, .int .i64 0] 70 (0, 0)) (by (with_reducible repeat (first | refine blk_drewN ?_ _ | refine blk_drew ?_ | refine blk_alloc ?_ _)); exact BK656.out) hb); have n1_ := Aside0.mk (below_step (by repeat (first | (with_reducible first | exact HB.out | apply below_alloc | apply pw_below_drewN | apply below_drew1 | refine below_set ?_ GE656.out) | exact HB.out)) hb); have n2_ := Aside0.mk (hbox); have n3_ := Aside0.mk ((by rw [hg]; exact (below_size (by repeat (first | (with_reducible first | exact HB.out | apply below_alloc | apply pw_below_drewN | apply below_drew1 | refine below_set ?_ GE656.out) | exact HB.out))) : w.heap.size ≤ gb657)); have n4_ := Aside0.mk ((by rw [hg]; exact (below_size (by repeat (first | (with_reducible first | exact HB.out | apply below_alloc | apply pw_below_drewN | apply below_drew1 | refine below_set ?_ GE656.out) | exact HB.out))) : w.heap.size ≤ gb657)); have n5_ := Aside0.mk ((by rw [hg]; exact Nat.ne_of_lt (blk_lt (g := gb656) (o := .cells #[.int .i64 0, .int .i64 0] 70 (0, 0)) (by (with_reducible repeat (first | refine blk_drewN ?_ _ | refine blk_drew ?_ | refine blk_alloc ?_ _)); exact BK656.out)) : gb656 ≠ gb657)); have n6_ := Aside0.mk ((by rw [hg]; exact Nat.ne_of_gt (blk_lt (g := gb656) (o := .cells #[.int .i64 0, .int .i64 0] 70 (0, 0)) (by (with_reducible repeat (first | refine blk_drewN ?_ _ | refine blk_drew ?_ | refine blk_alloc ?_ _)); exact BK656.out)) : gb657 ≠ gb656)); clear BK656; clear HB; have BK656 := n0_; have HB := n1_; have BK657 := n2_; have GW657 := n3_; have GE657 := n4_; have NB656_657 := n5_; have NB657_656 := n6_; clear n0_ n1_ n2_ n3_ n4_ n5_ n6_; clear hb hbox hg; have hnb10 := NB656_657.out; have hnc10 := NB657_656.out; have hcz11_0 : w9.cell? ⟨gb656, 0, none⟩ = some (.int .i64 0) := (blk_cell BK656.out 0).trans rfl; have hcz11_1 : w9.cell? ⟨gb656, 1, none⟩ = some (.int .i64 0) := (blk_cell BK656.out 1).trans rfl; have hfz11_0 := blk_frozen BK656.out 0; have hfz11_1 := blk_frozen BK656.out 1; have hcz12_0 : w9.cell? ⟨gb657, 0, none⟩ = some (.int .i64 0) := (blk_cell BK657.out 0).trans rfl; have hcz12_1 : w9.cell? ⟨gb657, 1, none⟩ = some (.int .i64 0) := (blk_cell BK657.out 1).trans rfl; have hfz12_0 := blk_frozen BK657.out 0; have hfz12_1 := blk_frozen BK657.out 1) | ((with_reducible refine gate_dst (N := 20) rfl ?_); refine Kd.R_lit k70 _ 70 ?hg (N := 20) ?hd (xs := ([(⟨t651, t652⟩ : S70), (⟨t653, t654⟩ : S70)] : List (S70))) (inner := [.int .i64 t651, .int .i64 t652, .int .i64 t653, .int .i64 t654]) (ok := fun _ => True) (okp := fun _ => True) ?hr ?hp (fun _ hk => hk) trivial (Below.refl _ _) (Nat.le_refl _) (by simp) ?_; (case hd => rfl); (case hg => rfl); (case hr => first | (go_simp; done) | (go_simp; rfl)); (case hp => exact (Reps.c2 (show Kd.M k70 _ _ _ (⟨t651, t652⟩ : S70) [.int .i64 t651, .int .i64 t652] from (k70_mkM _ _ _ (⟨t651, t652⟩ : S70) )) (Reps.c2 (show Kd.M k70 _ _ _ (⟨t653, t654⟩ : S70) [.int .i64 t653, .int .i64 t654] from (k70_mkM _ _ _ (⟨t653, t654⟩ : S70) )) (Reps.none _ _)))); intro v659 w13 ho14 hb hg_ hnew_; clear hg_ hnew_; (first | rw [← Ny658.out] at ho14 | (simp only [Int.reduceToNat] at ho14; rw [← Ny658.out] at ho14)); have n0_ := Aside0.mk (Kd.R_lower (Kd.R_newB (Kd.R_newB ho14 (g := gb656) (o := .cells #[.int .i64 t651, .int .i64 t652] 70 (0, 0)) (by (with_reducible repeat (first | refine blk_drewN ?_ _ | refine blk_drew ?_ | refine blk_alloc ?_ _)); refine blk_far ?_ NB656_657.out _; (with_reducible repeat (first | refine blk_drewN ?_ _ | refine blk_drew ?_ | refine blk_alloc ?_ _)); refine blk_far ?_ NB656_657.out _; (with_reducible repeat (first | refine blk_drewN ?_ _ | refine blk_drew ?_ | refine blk_alloc ?_ _)); refine blk_put (cs := #[.int .i64 t651, .int .i64 0]) ?_ 1 _ rfl; (with_reducible repeat (first | refine blk_drewN ?_ _ | refine blk_drew ?_ | refine blk_alloc ?_ _)); refine blk_put (cs := #[.int .i64 0, .int .i64 0]) ?_ 0 _ rfl; (with_reducible repeat (first | refine blk_drewN ?_ _ | refine blk_drew ?_ | refine blk_alloc ?_ _)); exact BK656.out)) (g := gb657) (o := .cells #[.int .i64 t653, .int .i64 t654] 70 (0, 0)) (by (with_reducible repeat (first | refine blk_drewN ?_ _ | refine blk_drew ?_ | refine blk_alloc ?_ _)); refine blk_put (cs := #[.int .i64 t653, .int .i64 0]) ?_ 1 _ rfl; (with_reducible repeat (first | refine blk_drewN ?_ _ | refine blk_drew ?_ | refine blk_alloc ?_ _)); refine blk_put (cs := #[.int .i64 0, .int .i64 0]) ?_ 0 _ rfl; (with_reducible repeat (first | refine blk_drewN ?_ _ | refine blk_drew ?_ | refine blk_alloc ?_ _)); refine blk_far ?_ NB657_656.out _; (with_reducible repeat (first | refine blk_drewN ?_ _ | refine blk_drew ?_ | refine blk_alloc ?_ _)); refine blk_far ?_ NB657_656.out _; (with_reducible repeat (first | refine blk_drewN ?_ _ | refine blk_drew ?_ | refine blk_alloc ?_ _)); exact BK657.out)) (below_size (by repeat (first | (with_reducible first | exact HB.out | apply below_alloc | apply pw_below_drewN | apply below_drew1 | refine below_set ?_ GE656.out | refine below_set ?_ GE657.out) | exact HB.out)))); have n1_ := Aside0.mk (blk_below (g := gb656) (o := .cells #[.int .i64 t651, .int .i64 t652] 70 (0, 0)) (by (with_reducible repeat (first | refine blk_drewN ?_ _ | refine blk_drew ?_ | refine blk_alloc ?_ _)); refine blk_far ?_ NB656_657.out _; (with_reducible repeat (first | refine blk_drewN ?_ _ | refine blk_drew ?_ | refine blk_alloc ?_ _)); refine blk_far ?_ NB656_657.out _; (with_reducible repeat (first | refine blk_drewN ?_ _ | refine blk_drew ?_ | refine blk_alloc ?_ _)); refine blk_put (cs := #[.int .i64 t651, .int .i64 0]) ?_ 1 _ rfl; (with_reducible repeat (first | refine blk_drewN ?_ _ | refine blk_drew ?_ | refine blk_alloc ?_ _)); refine blk_put (cs := #[.int .i64 0, .int .i64 0]) ?_ 0 _ rfl; (with_reducible repeat (first | refine blk_drewN ?_ _ | refine blk_drew ?_ | refine blk_alloc ?_ _)); exact BK656.out) hb); have n2_ := Aside0.mk (blk_below (g := gb657) (o := .cells #[.int .i64 t653, .int .i64 t654] 70 (0, 0)) (by (with_reducible repeat (first | refine blk_drewN ?_ _ | refine blk_drew ?_ | refine blk_alloc ?_ _)); refine blk_put (cs := #[.int .i64 t653, .int .i64 0]) ?_ 1 _ rfl; (with_reducible repeat (first | refine blk_drewN ?_ _ | refine blk_drew ?_ | refine blk_alloc ?_ _)); refine blk_put (cs := #[.int .i64 0, .int .i64 0]) ?_ 0 _ rfl; (with_reducible repeat (first | refine blk_drewN ?_ _ | refine blk_drew ?_ | refine blk_alloc ?_ _)); refine blk_far ?_ NB657_656.out _; (with_reducible repeat (first | refine blk_drewN ?_ _ | refine blk_drew ?_ | refine blk_alloc ?_ _)); refine blk_far ?_ NB657_656.out _; (with_reducible repeat (first | refine blk_drewN ?_ _ | refine blk_drew ?_ | refine blk_alloc ?_ _)); exact BK657.out) hb); have n3_ := Aside0.mk (below_step (by repeat (first | (with_reducible first | exact HB.out | apply below_alloc | apply pw_below_drewN | apply below_drew1 | refine below_set ?_ GE656.out | refine below_set ?_ GE657.out) | exact HB.out)) hb); clear BK656; clear BK657; clear HB; have HO660 := n0_; have BK656 := n1_; have BK657 := n2_; have HB := n3_; clear n0_ n1_ n2_ n3_; clear hb ho14))
      go_ret2
      exact ⟨_, by first | rfl | (simp [errW_none, errW_some] <;> rfl) | (simp [*, errW_none, errW_some] <;> rfl), by (with_reducible repeat (first | apply Kd.R_alloc | apply Kd.R_drewN | apply Kd.R_drew)); exact Kd.R_mono HO660.out (fun _ hk => trivial), by repeat (first | (with_reducible first | exact HB.out | apply below_alloc | apply pw_below_drewN | apply below_drew1 | refine below_set ?_ GE656.out | refine below_set ?_ GE657.out) | exact HB.out)⟩
    · replace c5 := Bool.eq_false_iff.mpr c5
      subst c5
      have H1 : (some (([] : List (S70)), false)) = some (r1, r2) := by rw [if_neg (show ¬ (false = true) by decide)] at H; exact H
      clear H
      have H := H1
      clear H1
      simp only [Option.some.injEq, Prod.mk.injEq] at H
      obtain ⟨rfl, rfl⟩ := H
      go_enter Try.func51, Try.ntmps51
      go_wp2_with (first | ((with_reducible refine gate_callee (f := 118) rfl ?_); refine goesL_ (some 8) rfl rfl Try.func118 (by kernel_rfl) rfl #[.slice A0 l0.length c0] rfl (by (try simp only [List.map_toArray, List.map_cons, List.map_nil]); first | done | rfl | (simp only [List.length_drop, List.length_take]; rfl)) ?_; (with_reducible refine (impl_isPlan.calls _ _ l0 true _ ?side1 ?side2 A2.out).mono ?_); (case side1 => repeat (first | exact HR0.out | (with_reducible refine Kd.C_alloc ?_ _) | (with_reducible refine Kd.C_drewN ?_ _) | (with_reducible refine Kd.C_drew ?_))); (case side2 => exact HC0.out); rintro e w15 ⟨rfl, hb⟩; refine ⟨_, rfl, ?_⟩; have n0_ := Aside0.mk (below_step (by repeat (first | (with_reducible first | exact HB.out | apply below_alloc | apply pw_below_drewN | apply below_drew1) | exact HB.out)) hb); clear HB; have HB := n0_; clear n0_; (try clear hb); (try clear hb2); (try clear hk); (try clear hi)) | ((with_reducible refine gate_callee (f := 141) rfl ?_); refine goesL_ (some 12) rfl rfl Try.func141 (by kernel_rfl) rfl #[.slice A0 l0.length c0] rfl (by (try simp only [List.map_toArray, List.map_cons, List.map_nil]); first | done | rfl | (simp only [List.length_drop, List.length_take]; rfl)) ?_; (with_reducible refine (impl_crossing.calls k _ _ l0 t651 t652 t653 t654 false _ ?side1 ?side2 A4.out).mono ?_); (case side1 => repeat (first | exact (Kd.C_below HR0.out HB.out) | (with_reducible refine Kd.C_alloc ?_ _) | (with_reducible refine Kd.C_drewN ?_ _) | (with_reducible refine Kd.C_drew ?_))); (case side2 => exact HC0.out); rintro e w16 ⟨rfl, hb⟩; refine ⟨_, rfl, ?_⟩; have n0_ := Aside0.mk (below_step (by repeat (first | (with_reducible first | exact HB.out | apply below_alloc | apply pw_below_drewN | apply below_drew1) | exact HB.out)) hb); clear HB; have HB := n0_; clear n0_; (try clear hb); (try clear hb2); (try clear hk); (try clear hi)) | ((with_reducible refine gate_dst (N := 4) rfl ?_); refine box_event ?hg (N := 4) ?hd (cs := #[.int .i64 0, .int .i64 0]) (t := 70) ?hr ?_; (case hd => rfl); (case hg => rfl); (case hr => first | (go_simp; done) | (go_simp; rfl)); intro gb656 hg w17 hbox hb; have n0_ := Aside0.mk (below_step (by repeat (first | (with_reducible first | exact HB.out | apply below_alloc | apply pw_below_drewN | apply below_drew1) | exact HB.out)) hb); have n1_ := Aside0.mk (hbox); have n2_ := Aside0.mk ((by rw [hg]; exact (below_size (by repeat (first | (with_reducible first | exact HB.out | apply below_alloc | apply pw_below_drewN | apply below_drew1) | exact HB.out))) : w.heap.size ≤ gb656)); have n3_ := Aside0.mk ((by rw [hg]; exact (below_size (by repeat (first | (with_reducible first | exact HB.out | apply below_alloc | apply pw_below_drewN | apply below_drew1) | exact HB.out))) : w.heap.size ≤ gb656)); clear HB; have HB := n0_; have BK656 := n1_; have GW656 := n2_; have GE656 := n3_; clear n0_ n1_ n2_ n3_; clear hb hbox hg) | ((with_reducible refine gate_dst (N := 5) rfl ?_); refine box_event ?hg (N := 5) ?hd (cs := #[.int .i64 0, .int .i64 0]) (t := 70) ?hr ?_; (case hd => rfl); (case hg => rfl); (case hr => first | (go_simp; done) | (go_simp; rfl)); intro gb657 hg w18 hbox hb; have n0_ := Aside0.mk (blk_below (g := gb656) (o := .cells #[.int .i64 0, .int .i64 0] 70 (0, 0)) (by (with_reducible repeat (first | refine blk_drewN ?_ _ | refine blk_drew ?_ | refine blk_alloc ?_ _)); exact BK656.out) hb); have n1_ := Aside0.mk (below_step (by repeat (first | (with_reducible first | exact HB.out | apply below_alloc | apply pw_below_drewN | apply below_drew1 | refine below_set ?_ GE656.out) | exact HB.out)) hb); have n2_ := Aside0.mk (hbox); have n3_ := Aside0.mk ((by rw [hg]; exact (below_size (by repeat (first | (with_reducible first | exact HB.out | apply below_alloc | apply pw_below_drewN | apply below_drew1 | refine below_set ?_ GE656.out) | exact HB.out))) : w.heap.size ≤ gb657)); have n4_ := Aside0.mk ((by rw [hg]; exact (below_size (by repeat (first | (with_reducible first | exact HB.out | apply below_alloc | apply pw_below_drewN | apply below_drew1 | refine below_set ?_ GE656.out) | exact HB.out))) : w.heap.size ≤ gb657)); have n5_ := Aside0.mk ((by rw [hg]; exact Nat.ne_of_lt (blk_lt (g := gb656) (o := .cells #[.int .i64 0, .int .i64 0] 70 (0, 0)) (by (with_reducible repeat (first | refine blk_drewN ?_ _ | refine blk_drew ?_ | refine blk_alloc ?_ _)); exact BK656.out)) : gb656 ≠ gb657)); have n6_ := Aside0.mk ((by rw [hg]; exact Nat.ne_of_gt (blk_lt (g := gb656) (o := .cells #[.int .i64 0, .int .i64 0] 70 (0, 0)) (by (with_reducible repeat (first | refine blk_drewN ?_ _ | refine blk_drew ?_ | refine blk_alloc ?_ _)); exact BK656.out)) : gb657 ≠ gb656)); clear BK656; clear HB; have BK656 := n0_; have HB := n1_; have BK657 := n2_; have GW657 := n3_; have GE657 := n4_; have NB656_657 := n5_; have NB657_656 := n6_; clear n0_ n1_ n2_ n3_ n4_ n5_ n6_; clear hb hbox hg; have hnb19 := NB656_657.out; have hnc19 := NB657_656.out; have hcz20_0 : w18.cell? ⟨gb656, 0, none⟩ = some (.int .i64 0) := (blk_cell BK656.out 0).trans rfl; have hcz20_1 : w18.cell? ⟨gb656, 1, none⟩ = some (.int .i64 0) := (blk_cell BK656.out 1).trans rfl; have hfz20_0 := blk_frozen BK656.out 0; have hfz20_1 := blk_frozen BK656.out 1; have hcz21_0 : w18.cell? ⟨gb657, 0, none⟩ = some (.int .i64 0) := (blk_cell BK657.out 0).trans rfl; have hcz21_1 : w18.cell? ⟨gb657, 1, none⟩ = some (.int .i64 0) := (blk_cell BK657.out 1).trans rfl; have hfz21_0 := blk_frozen BK657.out 0; have hfz21_1 := blk_frozen BK657.out 1))
      go_ret2
      exact ⟨_, by first | rfl | (simp [errW_none, errW_some] <;> rfl) | (simp [*, errW_none, errW_some] <;> rfl), by first | exact Kd.R_nil _ _ _ _ _ | exact Kd.N_nil _ _ _ _ _ | exact Kd.V_nil _ _ _ _ _ | exact Kd.Q_nil _ _ _ _ _ | exact Kd.S_nil _ _ _ _ _, by repeat (first | (with_reducible first | exact HB.out | apply below_alloc | apply pw_below_drewN | apply below_drew1 | refine below_set ?_ GE656.out | refine below_set ?_ GE657.out) | exact HB.out)⟩
  · replace c3 := Bool.eq_false_iff.mpr c3
    subst c3
    have H1 : (some (([] : List (S70)), false)) = some (r1, r2) := by rw [if_neg (show ¬ (false = true) by decide)] at H; exact H
    clear H
    have H := H1
    clear H1
    simp only [Option.some.injEq, Prod.mk.injEq] at H
    obtain ⟨rfl, rfl⟩ := H
    go_enter Try.func51, Try.ntmps51
    go_wp2_with (first | ((with_reducible refine gate_callee (f := 118) rfl ?_); refine goesL_ (some 8) rfl rfl Try.func118 (by kernel_rfl) rfl #[.slice A0 l0.length c0] rfl (by (try simp only [List.map_toArray, List.map_cons, List.map_nil]); first | done | rfl | (simp only [List.length_drop, List.length_take]; rfl)) ?_; (with_reducible refine (impl_isPlan.calls _ _ l0 false _ ?side1 ?side2 A2.out).mono ?_); (case side1 => repeat (first | exact HR0.out | (with_reducible refine Kd.C_alloc ?_ _) | (with_reducible refine Kd.C_drewN ?_ _) | (with_reducible refine Kd.C_drew ?_))); (case side2 => exact HC0.out); rintro e w22 ⟨rfl, hb⟩; refine ⟨_, rfl, ?_⟩; have n0_ := Aside0.mk (below_step (by repeat (first | (with_reducible first | exact HB.out | apply below_alloc | apply pw_below_drewN | apply below_drew1) | exact HB.out)) hb); clear HB; have HB := n0_; clear n0_; (try clear hb); (try clear hb2); (try clear hk); (try clear hi)))
    go_ret2
    exact ⟨_, by first | rfl | (simp [errW_none, errW_some] <;> rfl) | (simp [*, errW_none, errW_some] <;> rfl), by first | exact Kd.R_nil _ _ _ _ _ | exact Kd.N_nil _ _ _ _ _ | exact Kd.V_nil _ _ _ _ _ | exact Kd.Q_nil _ _ _ _ _ | exact Kd.S_nil _ _ _ _ _, by repeat (first | (with_reducible first | exact HB.out | apply below_alloc | apply pw_below_drewN | apply below_drew1) | exact HB.out)⟩

end Go.Proofs.Ytllnieknogficaa.K
namespace Go.Proofs.Ytllnieknogficaa.K
open Go.RowKit Go.Proofs.YtllnieknogficaaW.PrintWords Go.Proofs.YtllnieknogficaaW.PrintLast Go.Proofs.YtllnieknogficaaW.PrintMore
attribute [local go_sem] max2_int min2_int max_two min_two max_three min_three max_four min_four   -- for this text's walks alone
set_option linter.unusedVariables false
set_option linter.unusedSimpArgs false

/-! ### spec_plCells: function 210 -/
mutual
def spec_plCells.l0 : Nat → List (S70) → List (List Int) → Int → Int → Option ((List (S70)))
  | 0, _, _, _, _ => none
  | k + 1, x3, x8, x9, x10 => if x10 < x9 then (if 0 ≤ x10 then (if x10 < (x8.length : Int) then (spec_plCells.l1 k x3 x10 x8 x9 x10 (rd_L2 x8 x10) ((rd_L2 x8 x10).length : Int) 0) else (none)) else (none)) else (some x3)
def spec_plCells.l1 : Nat → List (S70) → Int → List (List Int) → Int → Int → List Int → Int → Int → Option ((List (S70)))
  | 0, _, _, _, _, _, _, _, _ => none
  | k + 1, x3, x4, x8, x9, x10, x15, x16, x17 => if x17 < x16 then (if 0 ≤ x17 then (if x17 < (x15.length : Int) then (if (rd x15 x17) > 0 then (if x3.length < 8796093022208 then (spec_plCells.l1 k (x3 ++ [(⟨x4, x17⟩ : S70)]) x4 x8 x9 x10 x15 x16 (wrap64 (x17 + 1))) else (none)) else (spec_plCells.l1 k x3 x4 x8 x9 x10 x15 x16 (wrap64 (x17 + 1)))) else (none)) else (none)) else (spec_plCells.l0 k x3 x8 x9 (wrap64 (x10 + 1)))
end
def spec_plCells.f (k : Nat) (l0 : List (List Int)) : Option ((List (S70))) := spec_plCells.l0 k ([] : List (S70)) l0 (l0.length : Int) 0
theorem spec_plCells.mono_l : ∀ k, (∀ y0 y1 y2 y3, LeO (spec_plCells.l0 k y0 y1 y2 y3) (spec_plCells.l0 (k + 1) y0 y1 y2 y3)) ∧ (∀ y0 y1 y2 y3 y4 y5 y6 y7, LeO (spec_plCells.l1 k y0 y1 y2 y3 y4 y5 y6 y7) (spec_plCells.l1 (k + 1) y0 y1 y2 y3 y4 y5 y6 y7))
  | 0 => ⟨fun _ _ _ _ r h => by simp [spec_plCells.l0] at h, fun _ _ _ _ _ _ _ _ r h => by simp [spec_plCells.l1] at h⟩
  | k + 1 => by
    obtain ⟨ih0, ih1⟩ := spec_plCells.mono_l k
    refine ⟨?_, ?_⟩
    · intro y0 y1 y2 y3
      unfold spec_plCells.l0
      repeat' first
      | (with_reducible exact ih0 _ _ _ _)
      | (with_reducible exact ih1 _ _ _ _ _ _ _ _)
      | (with_reducible exact LeO.refl _)
      | (with_reducible exact LeO.none _)
      | (with_reducible refine LeO.ite ?_ ?_)
      | (with_reducible refine LeO.bind ?_ (fun _ => ?_))
      | exact ih0 _ _ _ _
      | exact ih1 _ _ _ _ _ _ _ _
      | exact LeO.none _
      | refine LeO.ite ?_ ?_
      | refine LeO.bind ?_ (fun _ => ?_)
    · intro y0 y1 y2 y3 y4 y5 y6 y7
      unfold spec_plCells.l1
      repeat' first
      | (with_reducible exact ih0 _ _ _ _)
      | (with_reducible exact ih1 _ _ _ _ _ _ _ _)
      | (with_reducible exact LeO.refl _)
      | (with_reducible exact LeO.none _)
      | (with_reducible refine LeO.ite ?_ ?_)
      | (with_reducible refine LeO.bind ?_ (fun _ => ?_))
      | exact ih0 _ _ _ _
      | exact ih1 _ _ _ _ _ _ _ _
      | exact LeO.none _
      | refine LeO.ite ?_ ?_
      | refine LeO.bind ?_ (fun _ => ?_)
theorem spec_plCells.mono : ∀ a0 k, LeO (spec_plCells.f k a0) (spec_plCells.f (k + 1) a0) := by
  intro a0 k
  obtain ⟨ih0, ih1⟩ := spec_plCells.mono_l k
  unfold spec_plCells.f
  repeat' first
      | (with_reducible exact ih0 _ _ _ _)
      | (with_reducible exact ih1 _ _ _ _ _ _ _ _)
      | (with_reducible exact LeO.refl _)
      | (with_reducible exact LeO.none _)
      | (with_reducible refine LeO.ite ?_ ?_)
      | (with_reducible refine LeO.bind ?_ (fun _ => ?_))
      | exact ih0 _ _ _ _
      | exact ih1 _ _ _ _ _ _ _ _
      | exact LeO.none _
      | refine LeO.ite ?_ ?_
      | refine LeO.bind ?_ (fun _ => ?_)
set_option maxHeartbeats 8000000 in
set_option maxRecDepth 100000 in
theorem spec_plCells.calls (k : Nat) (A0 : Option Addr) (c0 : Nat) (l0 : List (List Int)) (r : List (S70)) (w : World) (hr0 : Kd.C (Kd.slice 3 (Kd.int .i64)) w A0 l0.length l0) (hc0 : l0.length ≤ c0) (h : spec_plCells.f k l0 = some r) :
    Calls Try.prog 210 #[.slice A0 l0.length c0] w fun e w' => ∃ v0_ : Value, e = .returned (v0_) ∧ Kd.R k70 70 w' w.heap.size (fun _ => True) v0_ r ∧ Below w.heap.size w w' := by
  have hu70 := Try.underlying70
  have HR0 := Aside0.mk hr0
  have HC0 := Aside0.mk hc0
  clear hr0 hc0
  have HB := Aside0.mk (Below.refl w.heap.size w)
  have H : (spec_plCells.l0 k ([] : List (S70)) l0 (l0.length : Int) 0) = some r := h
  clear h
  have H' := Aside0.mk H
  clear H
  go_enter Try.func210, Try.ntmps210
  go_wp2
  go_loopg [3, 10] k (fun kq v3 v10 w' => ∃ (x3_1 : List (S70)) (x10_1 : Int), v10 = .int .i64 x10_1 ∧ Aside0 (spec_plCells.l0 kq x3_1 l0 (l0.length : Int) x10_1 = some r) ∧ Aside0 (kq ≤ k) ∧ Aside0 (Kd.R k70 70 w' w.heap.size (fun _ => True) v3 x3_1) ∧ Aside0 (Below w.heap.size w w'))
  case atStart => exact ⟨(([] : List (S70))), (0), (by first | rfl | (simp; done) | (simp [*]; done)), H', ⟨Nat.le_refl _⟩, ⟨by first | exact Kd.R_nil _ _ _ _ _ | exact Kd.N_nil _ _ _ _ _ | exact Kd.V_nil _ _ _ _ _ | exact Kd.Q_nil _ _ _ _ _ | exact Kd.S_nil _ _ _ _ _⟩, ⟨by repeat (first | (with_reducible first | exact HB.out | apply below_alloc | apply pw_below_drewN | apply below_drew1) | exact HB.out)⟩⟩
  case round =>
    clear H'
    obtain ⟨x3_1, x10_1, rfl, HA, HK1, HO_3, HB⟩ := hrel
    cases gk with
    | zero => exact absurd HA.out (by simp [spec_plCells.l0])
    | succ k1 =>
      have H := HA.out
      clear HA
      simp only [spec_plCells.l0] at H
      by_cases c2 : x10_1 < (l0.length : Int)
      · rw [if_pos c2] at H
        have c2b0 : decide (x10_1 < (l0.length : Int)) = true := decide_eq_true c2
        clear c2
        by_cases c3 : 0 ≤ x10_1
        · rw [if_pos c3] at H
          have c3b0 : decide (0 ≤ x10_1) = true := decide_eq_true c3
          clear c3
          by_cases c4 : x10_1 < (l0.length : Int)
          · rw [if_pos c4] at H
            have c4b0 : decide (x10_1 < (l0.length : Int)) = true := decide_eq_true c4
            clear c4
            have H' := Aside0.mk H
            clear H
            have p624 : 0 ≤ (x10_1 : Int) := of_decide_eq_true (by first | (with_reducible assumption) | assumption)
            have q624 : x10_1 < (l0.length : Int) := of_decide_eq_true (by first | (with_reducible assumption) | assumption)
            obtain ⟨ad624, A624_0, c624_0, e624, hx624_0, hl624_0, hi624_0⟩ := at_L2 HR0.out x10_1 p624 q624
            cases e624
            replace hx624_0 := (HB.out.cell (World.block_lt_of_cell? w _ hx624_0)).trans hx624_0
            have HR624_0 := Aside0.mk hi624_0
            have HC624_0 := Aside0.mk hl624_0
            clear hi624_0 hl624_0
            replace p624 := eq_true p624
            replace q624 := eq_true q624
            go_wp2
            go_loopg [3, 17] k1 (fun kq v3 v17 w' => ∃ (x3_2 : List (S70)) (x17_2 : Int), v17 = .int .i64 x17_2 ∧ Aside0 (spec_plCells.l1 kq x3_2 x10_1 l0 (l0.length : Int) x10_1 (rd_L2 l0 x10_1) ((rd_L2 l0 x10_1).length : Int) x17_2 = some r) ∧ Aside0 (kq ≤ k1) ∧ Aside0 (Kd.R k70 70 w' w.heap.size (fun _ => True) v3 x3_2) ∧ Aside0 (Below w.heap.size w w'))
            case atStart => exact ⟨(x3_1), (0), (by first | rfl | (simp; done) | (simp [*]; done)), H', ⟨Nat.le_refl _⟩, ⟨by (with_reducible repeat (first | apply Kd.R_alloc | apply Kd.R_drewN | apply Kd.R_drew)); exact HO_3.out⟩, ⟨by repeat (first | (with_reducible first | exact HB.out | apply below_alloc | apply pw_below_drewN | apply below_drew1) | exact HB.out)⟩⟩
            case round =>
              clear H'
              try clear c2
              try clear c2b0
              try clear p2
              try clear c3
              try clear c3b0
              try clear c4
              try clear c4b0
              try clear hx624_0
              try clear p624
              try clear q624
              obtain ⟨x3_2, x17_2, rfl, HA, HK2, HO_3, HB⟩ := hrel
              cases gk with
              | zero => exact absurd HA.out (by simp [spec_plCells.l1])
              | succ k2 =>
                have H := HA.out
                clear HA
                simp only [spec_plCells.l1] at H
                by_cases c5 : x17_2 < ((rd_L2 l0 x10_1).length : Int)
                · rw [if_pos c5] at H
                  have c5b0 : decide (x17_2 < ((rd_L2 l0 x10_1).length : Int)) = true := decide_eq_true c5
                  clear c5
                  by_cases c6 : 0 ≤ x17_2
                  · rw [if_pos c6] at H
                    have c6b0 : decide (0 ≤ x17_2) = true := decide_eq_true c6
                    clear c6
                    by_cases c7 : x17_2 < ((rd_L2 l0 x10_1).length : Int)
                    · rw [if_pos c7] at H
                      have c7b0 : decide (x17_2 < ((rd_L2 l0 x10_1).length : Int)) = true := decide_eq_true c7
                      clear c7
                      by_cases c8 : (rd (rd_L2 l0 x10_1) x17_2) > 0
                      · rw [if_pos c8] at H
                        have c8b0 : decide (0 < (rd (rd_L2 l0 x10_1) x17_2)) = true := decide_eq_true c8
                        clear c8
                        by_cases c9 : x3_2.length < 8796093022208
                        · rw [if_pos c9] at H
                          have LMc9 := Aside0.mk c9
                          clear c9
                          obtain ⟨y626, hy626⟩ : ∃ y_ : List (S70), y_ = (x3_2 ++ [(⟨x10_1, x17_2⟩ : S70)]) := ⟨_, rfl⟩
                          replace H : (spec_plCells.l1 k2 y626 x10_1 l0 (l0.length : Int) x10_1 (rd_L2 l0 x10_1) ((rd_L2 l0 x10_1).length : Int) (wrap64 (x17_2 + 1))) = some r := by first | (rw [hy626]; with_reducible exact H) | (have H2_ := (Option.bind_some _ _).symm.trans H; rw [hy626]; with_reducible exact H2_) | (have H2_ := (Option.bind_some _ _).symm.trans H; with_reducible exact H2_) | with_reducible exact H | (rw [hy626]; exact H) | exact H
                          have Ny626 := Aside0.mk hy626
                          clear hy626
                          have H' := Aside0.mk H
                          clear H
                          have p625 : 0 ≤ (x17_2 : Int) := of_decide_eq_true (by first | (with_reducible assumption) | assumption)
                          have q625 : x17_2 < ((rd_L2 l0 x10_1).length : Int) := of_decide_eq_true (by first | (with_reducible assumption) | assumption)
                          obtain ⟨ad625, e625, hx625_0⟩ := Kd.at_int HR624_0.out x17_2 p625 q625
                          cases e625
                          replace hx625_0 := (HB.out.cell (World.block_lt_of_cell? w _ hx625_0)).trans hx625_0
                          replace p625 := eq_true p625
                          replace q625 := eq_true q625
                          go_wp2_with (first | ((with_reducible refine gate_builtin (b := .append) (xs := #[.tmp 24, .tmp 28]) rfl ?_); at_builtin; refine Kd.R_append k70 (w0 := w) w.heap.size rfl (.tmp 24) (.tmp 28) 56 70 (.agg #[(.int .i64 0), (.int .i64 0)]) 16 rfl Try.underlying56 info70 rfl (by decide) (by omega) u3 x3_2 (⟨x10_1, x17_2⟩ : S70) [.int .i64 x10_1, .int .i64 x17_2] (fun _ => True) (fun _ => False) rfl rfl ?aP (fun _ hk => hk.elim) ?aF ?aO ?aB ?aS ?aL ?_; (case aP => exact k70_mkM _ _ _ (⟨x10_1, x17_2⟩ : S70)); (case aB => exact (by repeat (first | (with_reducible first | exact HB.out | apply below_alloc | apply pw_below_drewN | apply below_drew1) | exact HB.out))); (case aF => exact (fun _ _ => trivial)); (case aO => exact (by (with_reducible repeat (first | apply Kd.R_alloc | apply Kd.R_drewN | apply Kd.R_drew)); exact HO_3.out)); (case aS => exact (below_size (by repeat (first | (with_reducible first | exact HB.out | apply below_alloc | apply pw_below_drewN | apply below_drew1) | exact HB.out)))); (case aL => have := LMc9.out; omega); intro v627 w10 ho hb hg hat; rw [← Ny626.out] at ho; have n0_ := Aside0.mk (hb); have n1_ := Aside0.mk (ho); clear HB; clear HO_3; have HB := n0_; have HO628 := n1_; clear n0_ n1_; clear ho hb hg hat))
                          go_roundg k2
                          case measure => have := HK1.out; have := HK2.out; omega
                          case rel => exact ⟨(y626), (wrap64 (x17_2 + 1)), (by first | rfl | (simp; done) | (simp [*]; done)), H', ⟨by have := HK1.out; have := HK2.out; omega⟩, ⟨by (with_reducible repeat (first | apply Kd.R_alloc | apply Kd.R_drewN | apply Kd.R_drew)); exact HO628.out⟩, ⟨by repeat (first | (with_reducible first | exact HB.out | apply below_alloc | apply pw_below_drewN | apply below_drew1) | exact HB.out)⟩⟩
                        · rw [if_neg c9] at H
                          exact absurd H (by simp)
                      · rw [if_neg c8] at H
                        have c8b0 : decide (0 < (rd (rd_L2 l0 x10_1) x17_2)) = false := decide_eq_false c8
                        clear c8
                        have H' := Aside0.mk H
                        clear H
                        have p625 : 0 ≤ (x17_2 : Int) := of_decide_eq_true (by first | (with_reducible assumption) | assumption)
                        have q625 : x17_2 < ((rd_L2 l0 x10_1).length : Int) := of_decide_eq_true (by first | (with_reducible assumption) | assumption)
                        obtain ⟨ad625, e625, hx625_0⟩ := Kd.at_int HR624_0.out x17_2 p625 q625
                        cases e625
                        replace hx625_0 := (HB.out.cell (World.block_lt_of_cell? w _ hx625_0)).trans hx625_0
                        replace p625 := eq_true p625
                        replace q625 := eq_true q625
                        go_wp2
                        go_roundg k2
                        case measure => have := HK1.out; have := HK2.out; omega
                        case rel => exact ⟨(x3_2), (wrap64 (x17_2 + 1)), (by first | rfl | (simp; done) | (simp [*]; done)), H', ⟨by have := HK1.out; have := HK2.out; omega⟩, ⟨by (with_reducible repeat (first | apply Kd.R_alloc | apply Kd.R_drewN | apply Kd.R_drew)); exact HO_3.out⟩, ⟨by repeat (first | (with_reducible first | exact HB.out | apply below_alloc | apply pw_below_drewN | apply below_drew1) | exact HB.out)⟩⟩
                    · rw [if_neg c7] at H
                      exact absurd H (by simp)
                  · rw [if_neg c6] at H
                    exact absurd H (by simp)
                · rw [if_neg c5] at H
                  have c5b0 : decide (x17_2 < ((rd_L2 l0 x10_1).length : Int)) = false := decide_eq_false c5
                  clear c5
                  have H' := Aside0.mk H
                  clear H
                  go_wp2
                  go_roundg k2
                  case measure => have := HK1.out; have := HK2.out; omega
                  case rel => exact ⟨(x3_2), (wrap64 (x10_1 + 1)), (by first | rfl | (simp; done) | (simp [*]; done)), H', ⟨by have := HK1.out; have := HK2.out; omega⟩, ⟨by (with_reducible repeat (first | apply Kd.R_alloc | apply Kd.R_drewN | apply Kd.R_drew)); exact HO_3.out⟩, ⟨by repeat (first | (with_reducible first | exact HB.out | apply below_alloc | apply pw_below_drewN | apply below_drew1) | exact HB.out)⟩⟩
          · rw [if_neg c4] at H
            exact absurd H (by simp)
        · rw [if_neg c3] at H
          exact absurd H (by simp)
      · rw [if_neg c2] at H
        have c2b0 : decide (x10_1 < (l0.length : Int)) = false := decide_eq_false c2
        clear c2
        obtain rfl := Option.some.inj H
        go_wp2
        go_ret
        exact ⟨_, by first | rfl | (simp [errW_none, errW_some] <;> rfl) | (simp [*, errW_none, errW_some] <;> rfl), by (with_reducible repeat (first | apply Kd.R_alloc | apply Kd.R_drewN | apply Kd.R_drew)); exact HO_3.out, by repeat (first | (with_reducible first | exact HB.out | apply below_alloc | apply pw_below_drewN | apply below_drew1) | exact HB.out)⟩

end Go.Proofs.Ytllnieknogficaa.K
namespace Go.Proofs.Ytllnieknogficaa.K
open Go.RowKit Go.Proofs.YtllnieknogficaaW.PrintWords Go.Proofs.YtllnieknogficaaW.PrintLast Go.Proofs.YtllnieknogficaaW.PrintMore
attribute [local go_sem] max2_int min2_int max_two min_two max_three min_three max_four min_four   -- for this text's walks alone
set_option linter.unusedVariables false
set_option linter.unusedSimpArgs false

/-! ### spec_plCrossing: function 140 -/
mutual
def spec_plCrossing.l0 : Nat → List (S70) → List (S70) → Int → Int → Option ((List (S70)) × Bool)
  | 0, _, _, _, _ => none
  | k + 1, x4, x11, x12, x13 => if x13 < x12 then (if 0 ≤ x13 then (if x13 < (x11.length : Int) then (spec_plCrossing.l1 k x4 x11 x12 x13 x4 (x4.length : Int) 0 ((rd_T70 x11 x13).f0) ((rd_T70 x11 x13).f1)) else (none)) else (none)) else (some (([] : List (S70)), false))
def spec_plCrossing.l1 : Nat → List (S70) → List (S70) → Int → Int → List (S70) → Int → Int → Int → Int → Option ((List (S70)) × Bool)
  | 0, _, _, _, _, _, _, _, _, _ => none
  | k + 1, x4, x11, x12, x13, x17, x18, x19, x634000, x634001 => if x19 < x18 then (if 0 ≤ x19 then (if x19 < (x17.length : Int) then (if x634000 < ((rd_T70 x17 x19).f0) then (if x634001 > ((rd_T70 x17 x19).f1) then (some ((([(⟨x634000, x634001⟩ : S70), (⟨(rd_T70 x17 x19).f0, (rd_T70 x17 x19).f1⟩ : S70)] : List (S70))), true)) else (spec_plCrossing.l1 k x4 x11 x12 x13 x17 x18 (wrap64 (x19 + 1)) x634000 x634001)) else (spec_plCrossing.l1 k x4 x11 x12 x13 x17 x18 (wrap64 (x19 + 1)) x634000 x634001)) else (none)) else (none)) else (spec_plCrossing.l0 k x4 x11 x12 (wrap64 (x13 + 1)))
end
def spec_plCrossing.f (k : Nat) (l0 : List (List Int)) : Option ((List (S70)) × Bool) := (spec_plCells.f k l0).bind fun t629 => (spec_plCrossing.l0 k t629 t629 (t629.length : Int) 0)
theorem spec_plCrossing.mono_l : ∀ k, (∀ y0 y1 y2 y3, LeO (spec_plCrossing.l0 k y0 y1 y2 y3) (spec_plCrossing.l0 (k + 1) y0 y1 y2 y3)) ∧ (∀ y0 y1 y2 y3 y4 y5 y6 y7 y8, LeO (spec_plCrossing.l1 k y0 y1 y2 y3 y4 y5 y6 y7 y8) (spec_plCrossing.l1 (k + 1) y0 y1 y2 y3 y4 y5 y6 y7 y8))
  | 0 => ⟨fun _ _ _ _ r h => by simp [spec_plCrossing.l0] at h, fun _ _ _ _ _ _ _ _ _ r h => by simp [spec_plCrossing.l1] at h⟩
  | k + 1 => by
    obtain ⟨ih0, ih1⟩ := spec_plCrossing.mono_l k
    refine ⟨?_, ?_⟩
    · intro y0 y1 y2 y3
      unfold spec_plCrossing.l0
      repeat' first
      | (with_reducible exact ih0 _ _ _ _)
      | (with_reducible exact ih1 _ _ _ _ _ _ _ _ _)
      | (with_reducible exact spec_plCells.mono _ _)
      | (with_reducible exact LeO.refl _)
      | (with_reducible exact LeO.none _)
      | (with_reducible refine LeO.ite ?_ ?_)
      | (with_reducible refine LeO.bind ?_ (fun _ => ?_))
      | exact ih0 _ _ _ _
      | exact ih1 _ _ _ _ _ _ _ _ _
      | exact spec_plCells.mono _ _
      | exact LeO.none _
      | refine LeO.ite ?_ ?_
      | refine LeO.bind ?_ (fun _ => ?_)
    · intro y0 y1 y2 y3 y4 y5 y6 y7 y8
      unfold spec_plCrossing.l1
      repeat' first
      | (with_reducible exact ih0 _ _ _ _)
      | (with_reducible exact ih1 _ _ _ _ _ _ _ _ _)
      | (with_reducible exact spec_plCells.mono _ _)
      | (with_reducible exact LeO.refl _)
      | (with_reducible exact LeO.none _)
      | (with_reducible refine LeO.ite ?_ ?_)
      | (with_reducible refine LeO.bind ?_ (fun _ => ?_))
      | exact ih0 _ _ _ _
      | exact ih1 _ _ _ _ _ _ _ _ _
      | exact spec_plCells.mono _ _
      | exact LeO.none _
      | refine LeO.ite ?_ ?_
      | refine LeO.bind ?_ (fun _ => ?_)
theorem spec_plCrossing.mono : ∀ a0 k, LeO (spec_plCrossing.f k a0) (spec_plCrossing.f (k + 1) a0) := by
  intro a0 k
  obtain ⟨ih0, ih1⟩ := spec_plCrossing.mono_l k
  unfold spec_plCrossing.f
  repeat' first
      | (with_reducible exact ih0 _ _ _ _)
      | (with_reducible exact ih1 _ _ _ _ _ _ _ _ _)
      | (with_reducible exact spec_plCells.mono _ _)
      | (with_reducible exact LeO.refl _)
      | (with_reducible exact LeO.none _)
      | (with_reducible refine LeO.ite ?_ ?_)
      | (with_reducible refine LeO.bind ?_ (fun _ => ?_))
      | exact ih0 _ _ _ _
      | exact ih1 _ _ _ _ _ _ _ _ _
      | exact spec_plCells.mono _ _
      | exact LeO.none _
      | refine LeO.ite ?_ ?_
      | refine LeO.bind ?_ (fun _ => ?_)
set_option maxHeartbeats 8000000 in
set_option maxRecDepth 100000 in
theorem spec_plCrossing.calls (k : Nat) (A0 : Option Addr) (c0 : Nat) (l0 : List (List Int)) (r1 : List (S70)) (r2 : Bool) (w : World) (hr0 : Kd.C (Kd.slice 3 (Kd.int .i64)) w A0 l0.length l0) (hc0 : l0.length ≤ c0) (h : spec_plCrossing.f k l0 = some (r1, r2)) :
    Calls Try.prog 140 #[.slice A0 l0.length c0] w fun e w' => ∃ v0_ : Value, e = .returned (.tuple #[v0_, .bool r2]) ∧ Kd.R k70 70 w' w.heap.size (fun _ => True) v0_ r1 ∧ Below w.heap.size w w' := by
  have hu70 := Try.underlying70
  have HR0 := Aside0.mk hr0
  have HC0 := Aside0.mk hc0
  clear hr0 hc0
  have HB := Aside0.mk (Below.refl w.heap.size w)
  have H : ((spec_plCells.f k l0).bind fun t629 => (spec_plCrossing.l0 k t629 t629 (t629.length : Int) 0)) = some (r1, r2) := h
  clear h
  replace H := Option.bind_eq_some_iff.mp H
  obtain ⟨t629, A20, H⟩ := H
  replace H : (spec_plCrossing.l0 k t629 t629 (t629.length : Int) 0) = some (r1, r2) := H
  have A2 := Aside0.mk A20
  clear A20
  have H' := Aside0.mk H
  clear H
  go_enter Try.func140, Try.ntmps140
  go_wp2_with (first | ((with_reducible refine gate_callee (f := 210) rfl ?_); refine goesL_ (some 10) rfl rfl Try.func210 (by kernel_rfl) rfl #[.slice A0 l0.length c0] rfl (by (try simp only [List.map_toArray, List.map_cons, List.map_nil]); first | done | rfl | (simp only [List.length_drop, List.length_take]; rfl)) ?_; (with_reducible refine (spec_plCells.calls k _ _ l0 t629 _ ?side1 ?side2 A2.out).mono ?_); (case side1 => repeat (first | exact HR0.out | (with_reducible refine Kd.C_alloc ?_ _) | (with_reducible refine Kd.C_drewN ?_ _) | (with_reducible refine Kd.C_drew ?_))); (case side2 => exact HC0.out); rintro e w3 ⟨v630, rfl, ho0, hb⟩; refine ⟨_, rfl, ?_⟩; have n0_ := Aside0.mk (Kd.R_lower ho0 (below_size (by repeat (first | (with_reducible first | exact HB.out | apply below_alloc | apply pw_below_drewN | apply below_drew1) | exact HB.out)))); have n1_ := Aside0.mk (below_step (by repeat (first | (with_reducible first | exact HB.out | apply below_alloc | apply pw_below_drewN | apply below_drew1) | exact HB.out)) hb); clear HB; have HO631 := n0_; have HB := n1_; clear n0_ n1_; (try clear hb); (try clear hb2); (try clear hk); (try clear hi); (try clear ho0); obtain ⟨Ao4, co4, eo4⟩ := Kd.R_slice HO631.out; subst eo4))
  go_loopg [13] k (fun kq v13 w' => ∃ (x13_1 : Int), v13 = .int .i64 x13_1 ∧ Aside0 (spec_plCrossing.l0 kq t629 t629 (t629.length : Int) x13_1 = some (r1, r2)) ∧ Aside0 (kq ≤ k) ∧ Aside0 (Kd.R k70 70 w' w.heap.size (fun _ => True) (.slice Ao4 t629.length co4) t629) ∧ Aside0 (Kd.R k70 70 w' w.heap.size (fun _ => True) (.slice Ao4 t629.length co4) t629) ∧ Aside0 (Below w.heap.size w w'))
  case atStart => exact ⟨(0), (by first | rfl | (simp; done) | (simp [*]; done)), H', ⟨Nat.le_refl _⟩, ⟨by (with_reducible repeat (first | apply Kd.R_alloc | apply Kd.R_drewN | apply Kd.R_drew)); exact HO631.out⟩, ⟨by (with_reducible repeat (first | apply Kd.R_alloc | apply Kd.R_drewN | apply Kd.R_drew)); exact HO631.out⟩, ⟨by repeat (first | (with_reducible first | exact HB.out | apply below_alloc | apply pw_below_drewN | apply below_drew1) | exact HB.out)⟩⟩
  case round =>
    clear H'
    try clear c1
    try clear c2
    try clear p2
    obtain ⟨x13_1, rfl, HA, HK1, HO_4, HO_11, HB⟩ := hrel
    cases gk with
    | zero => exact absurd HA.out (by simp [spec_plCrossing.l0])
    | succ k1 =>
      have H := HA.out
      clear HA
      simp only [spec_plCrossing.l0] at H
      by_cases c5 : x13_1 < (t629.length : Int)
      · rw [if_pos c5] at H
        have c5b0 : decide (x13_1 < (t629.length : Int)) = true := decide_eq_true c5
        clear c5
        by_cases c6 : 0 ≤ x13_1
        · rw [if_pos c6] at H
          have c6b0 : decide (0 ≤ x13_1) = true := decide_eq_true c6
          clear c6
          by_cases c7 : x13_1 < (t629.length : Int)
          · rw [if_pos c7] at H
            have c7b0 : decide (x13_1 < (t629.length : Int)) = true := decide_eq_true c7
            clear c7
            have H' := Aside0.mk H
            clear H
            have p632 : 0 ≤ (x13_1 : Int) := of_decide_eq_true (by first | (with_reducible assumption) | assumption)
            have q632 : x13_1 < (t629.length : Int) := of_decide_eq_true (by first | (with_reducible assumption) | assumption)
            obtain ⟨ad632, e632, hx632_0, hx632_1⟩ := at_T70 (Kd.R_reads' HO_11.out).2.2 x13_1 p632 q632
            cases e632
            replace p632 := eq_true p632
            replace q632 := eq_true q632
            go_wp2_with (first | ((with_reducible refine gate_dst (N := 6) rfl ?_); refine box_event ?hg (N := 6) ?hd (cs := #[.int .i64 0, .int .i64 0]) (t := 70) ?hr ?_; (case hd => rfl); (case hg => rfl); (case hr => first | (go_simp; done) | (go_simp; rfl)); intro gb633 hg w8 hbox hb; have n0_ := Aside0.mk (Kd.R_below (Kd.R_elderB (by (with_reducible repeat (first | apply Kd.R_alloc | apply Kd.R_drewN | apply Kd.R_drew)); exact HO_4.out) gb633 (Nat.le_of_eq hg.symm)) hb); have n1_ := Aside0.mk (Kd.R_below (Kd.R_elderB (by (with_reducible repeat (first | apply Kd.R_alloc | apply Kd.R_drewN | apply Kd.R_drew)); exact HO_11.out) gb633 (Nat.le_of_eq hg.symm)) hb); have n2_ := Aside0.mk (below_step (by repeat (first | (with_reducible first | exact HB.out | apply below_alloc | apply pw_below_drewN | apply below_drew1) | exact HB.out)) hb); have n3_ := Aside0.mk (hbox); have n4_ := Aside0.mk ((by rw [hg]; exact (below_size (by repeat (first | (with_reducible first | exact HB.out | apply below_alloc | apply pw_below_drewN | apply below_drew1) | exact HB.out))) : w.heap.size ≤ gb633)); have n5_ := Aside0.mk ((by rw [hg]; exact (below_size (by repeat (first | (with_reducible first | exact HB.out | apply below_alloc | apply pw_below_drewN | apply below_drew1) | exact HB.out))) : w.heap.size ≤ gb633)); clear HO_4; clear HO_11; clear HB; have HO_4 := n0_; have HO_11 := n1_; have HB := n2_; have BK633 := n3_; have GW633 := n4_; have GE633 := n5_; clear n0_ n1_ n2_ n3_ n4_ n5_; clear hb hbox hg; have hcz9_0 : w8.cell? ⟨gb633, 0, none⟩ = some (.int .i64 0) := (blk_cell BK633.out 0).trans rfl; have hcz9_1 : w8.cell? ⟨gb633, 1, none⟩ = some (.int .i64 0) := (blk_cell BK633.out 1).trans rfl; have hfz9_0 := blk_frozen BK633.out 0; have hfz9_1 := blk_frozen BK633.out 1))
            go_loopg [19] k1 (fun kq v19 w' => ∃ (x19_2 : Int), v19 = .int .i64 x19_2 ∧ Aside0 (spec_plCrossing.l1 kq t629 t629 (t629.length : Int) x13_1 t629 (t629.length : Int) x19_2 ((rd_T70 t629 x13_1).f0) ((rd_T70 t629 x13_1).f1) = some (r1, r2)) ∧ Aside0 (kq ≤ k1) ∧ Aside0 (Kd.R k70 70 w' w.heap.size (fun k_ => k_ ≠ gb633) (.slice (some ad632) t629.length co4) t629) ∧ Aside0 (Kd.R k70 70 w' w.heap.size (fun k_ => k_ ≠ gb633) (.slice (some ad632) t629.length co4) t629) ∧ Aside0 (Kd.R k70 70 w' w.heap.size (fun k_ => k_ ≠ gb633) (.slice (some ad632) t629.length co4) t629) ∧ Aside0 (w'.heap[gb633]? = some (.cells #[.int .i64 ((rd_T70 t629 x13_1).f0), .int .i64 ((rd_T70 t629 x13_1).f1)] 70 (0, 0))) ∧ Aside0 (Below w.heap.size w w'))
            case atStart => exact ⟨(0), (by first | rfl | (simp; done) | (simp [*]; done)), H', ⟨Nat.le_refl _⟩, ⟨by (with_reducible repeat (first | apply Kd.R_alloc | apply Kd.R_drewN | apply Kd.R_drew)); exact Kd.R_mono (Kd.R_far (p := ⟨gb633, 1, none⟩) (Kd.R_far (p := ⟨gb633, 0, none⟩) (Kd.R_mono HO_4.out (fun k_ hk => (⟨hk, hk.2⟩ : _ ∧ k_ ≠ gb633))) (fun _ hk => hk.2) (.int .i64 ((rd_T70 t629 x13_1).f0))) (fun _ hk => hk.2) (.int .i64 ((rd_T70 t629 x13_1).f1))) (fun _ hk => hk.1.2)⟩, ⟨by (with_reducible repeat (first | apply Kd.R_alloc | apply Kd.R_drewN | apply Kd.R_drew)); exact Kd.R_mono (Kd.R_far (p := ⟨gb633, 1, none⟩) (Kd.R_far (p := ⟨gb633, 0, none⟩) (Kd.R_mono HO_11.out (fun k_ hk => (⟨hk, hk.2⟩ : _ ∧ k_ ≠ gb633))) (fun _ hk => hk.2) (.int .i64 ((rd_T70 t629 x13_1).f0))) (fun _ hk => hk.2) (.int .i64 ((rd_T70 t629 x13_1).f1))) (fun _ hk => hk.1.2)⟩, ⟨by (with_reducible repeat (first | apply Kd.R_alloc | apply Kd.R_drewN | apply Kd.R_drew)); exact Kd.R_mono (Kd.R_far (p := ⟨gb633, 1, none⟩) (Kd.R_far (p := ⟨gb633, 0, none⟩) (Kd.R_mono HO_4.out (fun k_ hk => (⟨hk, hk.2⟩ : _ ∧ k_ ≠ gb633))) (fun _ hk => hk.2) (.int .i64 ((rd_T70 t629 x13_1).f0))) (fun _ hk => hk.2) (.int .i64 ((rd_T70 t629 x13_1).f1))) (fun _ hk => hk.1.2)⟩, ⟨by (with_reducible repeat (first | refine blk_drewN ?_ _ | refine blk_drew ?_ | refine blk_alloc ?_ _)); refine blk_put (cs := #[.int .i64 ((rd_T70 t629 x13_1).f0), .int .i64 0]) ?_ 1 _ rfl; (with_reducible repeat (first | refine blk_drewN ?_ _ | refine blk_drew ?_ | refine blk_alloc ?_ _)); refine blk_put (cs := #[.int .i64 0, .int .i64 0]) ?_ 0 _ rfl; (with_reducible repeat (first | refine blk_drewN ?_ _ | refine blk_drew ?_ | refine blk_alloc ?_ _)); exact BK633.out⟩, ⟨by repeat (first | (with_reducible first | exact HB.out | apply below_alloc | apply pw_below_drewN | apply below_drew1 | refine below_set ?_ GE633.out) | exact HB.out)⟩⟩
            case round =>
              clear H'
              try clear c1
              try clear c2
              try clear p2
              try clear c5
              try clear c5b0
              try clear c6
              try clear c6b0
              try clear p6
              try clear q6
              try clear hx6
              try clear c7
              try clear c7b0
              try clear hcz9_0
              try clear hcz9_1
              try clear hfz9_0
              try clear hfz9_1
              try clear hx632_0
              try clear hx632_1
              try clear p2
              try clear p632
              try clear q632
              obtain ⟨x19_2, rfl, HA, HK2, HO_4, HO_11, HO_17, BK633, HB⟩ := hrel
              cases gk with
              | zero => exact absurd HA.out (by simp [spec_plCrossing.l1])
              | succ k2 =>
                have H := HA.out
                clear HA
                simp only [spec_plCrossing.l1] at H
                by_cases c10 : x19_2 < (t629.length : Int)
                · rw [if_pos c10] at H
                  have c10b0 : decide (x19_2 < (t629.length : Int)) = true := decide_eq_true c10
                  clear c10
                  by_cases c11 : 0 ≤ x19_2
                  · rw [if_pos c11] at H
                    have c11b0 : decide (0 ≤ x19_2) = true := decide_eq_true c11
                    clear c11
                    by_cases c12 : x19_2 < (t629.length : Int)
                    · rw [if_pos c12] at H
                      have c12b0 : decide (x19_2 < (t629.length : Int)) = true := decide_eq_true c12
                      clear c12
                      by_cases c13 : ((rd_T70 t629 x13_1).f0) < ((rd_T70 t629 x19_2).f0)
                      · rw [if_pos c13] at H
                        have c13b0 : decide (((rd_T70 t629 x13_1).f0) < ((rd_T70 t629 x19_2).f0)) = true := decide_eq_true c13
                        clear c13
                        by_cases c14 : ((rd_T70 t629 x13_1).f1) > ((rd_T70 t629 x19_2).f1)
                        · rw [if_pos c14] at H
                          have c14b0 : decide (((rd_T70 t629 x19_2).f1) < ((rd_T70 t629 x13_1).f1)) = true := decide_eq_true c14
                          clear c14
                          obtain ⟨y636, hy636⟩ : ∃ y_ : List (S70), y_ = (([(⟨((rd_T70 t629 x13_1).f0), ((rd_T70 t629 x13_1).f1)⟩ : S70), (⟨(rd_T70 t629 x19_2).f0, (rd_T70 t629 x19_2).f1⟩ : S70)] : List (S70))) := ⟨_, rfl⟩
                          replace H : (some (y636, true)) = some (r1, r2) := by first | (rw [hy636]; with_reducible exact H) | (have H2_ := (Option.bind_some _ _).symm.trans H; rw [hy636]; with_reducible exact H2_) | (have H2_ := (Option.bind_some _ _).symm.trans H; with_reducible exact H2_) | with_reducible exact H | (rw [hy636]; exact H) | exact H
                          have Ny636 := Aside0.mk hy636
                          clear hy636
                          simp only [Option.some.injEq, Prod.mk.injEq] at H
                          obtain ⟨rfl, rfl⟩ := H
                          have p634 : 0 ≤ (x19_2 : Int) := of_decide_eq_true (by first | (with_reducible assumption) | assumption)
                          have q634 : x19_2 < (t629.length : Int) := of_decide_eq_true (by first | (with_reducible assumption) | assumption)
                          obtain ⟨ad634, e634, hx634_0, hx634_1⟩ := at_T70 (Kd.R_reads' HO_17.out).2.2 x19_2 p634 q634
                          obtain rfl : ad632 = ad634 := (by injection e634)
                          replace p634 := eq_true p634
                          replace q634 := eq_true q634
                          go_wp2_with (first | ((with_reducible refine gate_dst (N := 8) rfl ?_); refine box_event ?hg (N := 8) ?hd (cs := #[.int .i64 0, .int .i64 0]) (t := 70) ?hr ?_; (case hd => rfl); (case hg => rfl); (case hr => first | (go_simp; done) | (go_simp; rfl)); intro gb635 hg w15 hbox hb; have n0_ := Aside0.mk (Kd.R_below (Kd.R_elderB (by (with_reducible repeat (first | apply Kd.R_alloc | apply Kd.R_drewN | apply Kd.R_drew)); exact HO_4.out) gb635 (Nat.le_of_eq hg.symm)) hb); have n1_ := Aside0.mk (Kd.R_below (Kd.R_elderB (by (with_reducible repeat (first | apply Kd.R_alloc | apply Kd.R_drewN | apply Kd.R_drew)); exact HO_11.out) gb635 (Nat.le_of_eq hg.symm)) hb); have n2_ := Aside0.mk (Kd.R_below (Kd.R_elderB (by (with_reducible repeat (first | apply Kd.R_alloc | apply Kd.R_drewN | apply Kd.R_drew)); exact HO_17.out) gb635 (Nat.le_of_eq hg.symm)) hb); have n3_ := Aside0.mk (blk_below (g := gb633) (o := .cells #[.int .i64 ((rd_T70 t629 x13_1).f0), .int .i64 ((rd_T70 t629 x13_1).f1)] 70 (0, 0)) (by (with_reducible repeat (first | refine blk_drewN ?_ _ | refine blk_drew ?_ | refine blk_alloc ?_ _)); exact BK633.out) hb); have n4_ := Aside0.mk (below_step (by repeat (first | (with_reducible first | exact HB.out | apply below_alloc | apply pw_below_drewN | apply below_drew1 | refine below_set ?_ GE633.out) | exact HB.out)) hb); have n5_ := Aside0.mk (hbox); have n6_ := Aside0.mk ((by rw [hg]; exact (below_size (by repeat (first | (with_reducible first | exact HB.out | apply below_alloc | apply pw_below_drewN | apply below_drew1 | refine below_set ?_ GE633.out) | exact HB.out))) : w.heap.size ≤ gb635)); have n7_ := Aside0.mk ((by rw [hg]; exact (below_size (by repeat (first | (with_reducible first | exact HB.out | apply below_alloc | apply pw_below_drewN | apply below_drew1 | refine below_set ?_ GE633.out) | exact HB.out))) : w.heap.size ≤ gb635)); have n8_ := Aside0.mk ((by rw [hg]; exact Nat.ne_of_lt (blk_lt (g := gb633) (o := .cells #[.int .i64 ((rd_T70 t629 x13_1).f0), .int .i64 ((rd_T70 t629 x13_1).f1)] 70 (0, 0)) (by (with_reducible repeat (first | refine blk_drewN ?_ _ | refine blk_drew ?_ | refine blk_alloc ?_ _)); exact BK633.out)) : gb633 ≠ gb635)); have n9_ := Aside0.mk ((by rw [hg]; exact Nat.ne_of_gt (blk_lt (g := gb633) (o := .cells #[.int .i64 ((rd_T70 t629 x13_1).f0), .int .i64 ((rd_T70 t629 x13_1).f1)] 70 (0, 0)) (by (with_reducible repeat (first | refine blk_drewN ?_ _ | refine blk_drew ?_ | refine blk_alloc ?_ _)); exact BK633.out)) : gb635 ≠ gb633)); clear HO_4; clear HO_11; clear HO_17; clear BK633; clear HB; have HO_4 := n0_; have HO_11 := n1_; have HO_17 := n2_; have BK633 := n3_; have HB := n4_; have BK635 := n5_; have GW635 := n6_; have GE635 := n7_; have NB633_635 := n8_; have NB635_633 := n9_; clear n0_ n1_ n2_ n3_ n4_ n5_ n6_ n7_ n8_ n9_; clear hb hbox hg; have hnb16 := NB635_633.out; have hnc16 := NB633_635.out; have hcz17_0 : w15.cell? ⟨gb635, 0, none⟩ = some (.int .i64 0) := (blk_cell BK635.out 0).trans rfl; have hcz17_1 : w15.cell? ⟨gb635, 1, none⟩ = some (.int .i64 0) := (blk_cell BK635.out 1).trans rfl; have hfz17_0 := blk_frozen BK635.out 0; have hfz17_1 := blk_frozen BK635.out 1; have hcz18_0 : w15.cell? ⟨gb633, 0, none⟩ = some (.int .i64 ((rd_T70 t629 x13_1).f0)) := (blk_cell BK633.out 0).trans rfl; have hcz18_1 : w15.cell? ⟨gb633, 1, none⟩ = some (.int .i64 ((rd_T70 t629 x13_1).f1)) := (blk_cell BK633.out 1).trans rfl; have hfz18_0 := blk_frozen BK633.out 0; have hfz18_1 := blk_frozen BK633.out 1) | ((with_reducible refine gate_dst (N := 37) rfl ?_); refine Kd.R_lit k70 _ 70 ?hg (N := 37) ?hd (xs := ([(⟨((rd_T70 t629 x13_1).f0), ((rd_T70 t629 x13_1).f1)⟩ : S70), (⟨(rd_T70 t629 x19_2).f0, (rd_T70 t629 x19_2).f1⟩ : S70)] : List (S70))) (inner := [.int .i64 ((rd_T70 t629 x13_1).f0), .int .i64 ((rd_T70 t629 x13_1).f1), .int .i64 ((rd_T70 t629 x19_2).f0), .int .i64 ((rd_T70 t629 x19_2).f1)]) (ok := fun _ => True) (okp := fun _ => True) ?hr ?hp (fun _ hk => hk) trivial (Below.refl _ _) (Nat.le_refl _) (by simp) ?_; (case hd => rfl); (case hg => rfl); (case hr => first | (go_simp; done) | (go_simp; rfl)); (case hp => exact (Reps.c2 (show Kd.M k70 _ _ _ (⟨((rd_T70 t629 x13_1).f0), ((rd_T70 t629 x13_1).f1)⟩ : S70) [.int .i64 ((rd_T70 t629 x13_1).f0), .int .i64 ((rd_T70 t629 x13_1).f1)] from (k70_mkM _ _ _ (⟨((rd_T70 t629 x13_1).f0), ((rd_T70 t629 x13_1).f1)⟩ : S70) )) (Reps.c2 (show Kd.M k70 _ _ _ (⟨(rd_T70 t629 x19_2).f0, (rd_T70 t629 x19_2).f1⟩ : S70) [.int .i64 ((rd_T70 t629 x19_2).f0), .int .i64 ((rd_T70 t629 x19_2).f1)] from (k70_mkM _ _ _ (⟨(rd_T70 t629 x19_2).f0, (rd_T70 t629 x19_2).f1⟩ : S70) )) (Reps.none _ _)))); intro v637 w19 ho20 hb hg_ hnew_; clear hg_ hnew_; (first | rw [← Ny636.out] at ho20 | (simp only [Int.reduceToNat] at ho20; rw [← Ny636.out] at ho20)); have n0_ := Aside0.mk (Kd.R_elder' (by (with_reducible repeat (first | apply Kd.R_alloc | apply Kd.R_drewN | apply Kd.R_drew)); exact (Kd.R_mono (Kd.R_far (p := ⟨gb635, 1, none⟩) (Kd.R_far (p := ⟨gb635, 0, none⟩) (Kd.R_mono HO_4.out (fun k_ hk => (⟨hk, hk.2⟩ : _ ∧ k_ ≠ gb635))) (fun _ hk => hk.2) (.int .i64 ((rd_T70 t629 x19_2).f0))) (fun _ hk => hk.2) (.int .i64 ((rd_T70 t629 x19_2).f1))) (fun _ h_ => h_.1))) (Kd.R_base ho20) hb); have n1_ := Aside0.mk (Kd.R_elder' (by (with_reducible repeat (first | apply Kd.R_alloc | apply Kd.R_drewN | apply Kd.R_drew)); exact (Kd.R_mono (Kd.R_far (p := ⟨gb635, 1, none⟩) (Kd.R_far (p := ⟨gb635, 0, none⟩) (Kd.R_mono HO_11.out (fun k_ hk => (⟨hk, hk.2⟩ : _ ∧ k_ ≠ gb635))) (fun _ hk => hk.2) (.int .i64 ((rd_T70 t629 x19_2).f0))) (fun _ hk => hk.2) (.int .i64 ((rd_T70 t629 x19_2).f1))) (fun _ h_ => h_.1))) (Kd.R_base ho20) hb); have n2_ := Aside0.mk (Kd.R_elder' (by (with_reducible repeat (first | apply Kd.R_alloc | apply Kd.R_drewN | apply Kd.R_drew)); exact (Kd.R_mono (Kd.R_far (p := ⟨gb635, 1, none⟩) (Kd.R_far (p := ⟨gb635, 0, none⟩) (Kd.R_mono HO_17.out (fun k_ hk => (⟨hk, hk.2⟩ : _ ∧ k_ ≠ gb635))) (fun _ hk => hk.2) (.int .i64 ((rd_T70 t629 x19_2).f0))) (fun _ hk => hk.2) (.int .i64 ((rd_T70 t629 x19_2).f1))) (fun _ h_ => h_.1))) (Kd.R_base ho20) hb); have n3_ := Aside0.mk (Kd.R_lower (Kd.R_newB (Kd.R_newB (Kd.R_new' (Kd.R_new' (Kd.R_new' ho20 (Kd.R_lt (by (with_reducible repeat (first | apply Kd.R_alloc | apply Kd.R_drewN | apply Kd.R_drew)); exact (Kd.R_mono (Kd.R_far (p := ⟨gb635, 1, none⟩) (Kd.R_far (p := ⟨gb635, 0, none⟩) (Kd.R_mono HO_4.out (fun k_ hk => (⟨hk, hk.2⟩ : _ ∧ k_ ≠ gb635))) (fun _ hk => hk.2) (.int .i64 ((rd_T70 t629 x19_2).f0))) (fun _ hk => hk.2) (.int .i64 ((rd_T70 t629 x19_2).f1))) (fun _ h_ => h_.1))))) (Kd.R_lt (by (with_reducible repeat (first | apply Kd.R_alloc | apply Kd.R_drewN | apply Kd.R_drew)); exact (Kd.R_mono (Kd.R_far (p := ⟨gb635, 1, none⟩) (Kd.R_far (p := ⟨gb635, 0, none⟩) (Kd.R_mono HO_11.out (fun k_ hk => (⟨hk, hk.2⟩ : _ ∧ k_ ≠ gb635))) (fun _ hk => hk.2) (.int .i64 ((rd_T70 t629 x19_2).f0))) (fun _ hk => hk.2) (.int .i64 ((rd_T70 t629 x19_2).f1))) (fun _ h_ => h_.1))))) (Kd.R_lt (by (with_reducible repeat (first | apply Kd.R_alloc | apply Kd.R_drewN | apply Kd.R_drew)); exact (Kd.R_mono (Kd.R_far (p := ⟨gb635, 1, none⟩) (Kd.R_far (p := ⟨gb635, 0, none⟩) (Kd.R_mono HO_17.out (fun k_ hk => (⟨hk, hk.2⟩ : _ ∧ k_ ≠ gb635))) (fun _ hk => hk.2) (.int .i64 ((rd_T70 t629 x19_2).f0))) (fun _ hk => hk.2) (.int .i64 ((rd_T70 t629 x19_2).f1))) (fun _ h_ => h_.1))))) (g := gb633) (o := .cells #[.int .i64 ((rd_T70 t629 x13_1).f0), .int .i64 ((rd_T70 t629 x13_1).f1)] 70 (0, 0)) (by (with_reducible repeat (first | refine blk_drewN ?_ _ | refine blk_drew ?_ | refine blk_alloc ?_ _)); refine blk_far ?_ NB633_635.out _; (with_reducible repeat (first | refine blk_drewN ?_ _ | refine blk_drew ?_ | refine blk_alloc ?_ _)); refine blk_far ?_ NB633_635.out _; (with_reducible repeat (first | refine blk_drewN ?_ _ | refine blk_drew ?_ | refine blk_alloc ?_ _)); exact BK633.out)) (g := gb635) (o := .cells #[.int .i64 ((rd_T70 t629 x19_2).f0), .int .i64 ((rd_T70 t629 x19_2).f1)] 70 (0, 0)) (by (with_reducible repeat (first | refine blk_drewN ?_ _ | refine blk_drew ?_ | refine blk_alloc ?_ _)); refine blk_put (cs := #[.int .i64 ((rd_T70 t629 x19_2).f0), .int .i64 0]) ?_ 1 _ rfl; (with_reducible repeat (first | refine blk_drewN ?_ _ | refine blk_drew ?_ | refine blk_alloc ?_ _)); refine blk_put (cs := #[.int .i64 0, .int .i64 0]) ?_ 0 _ rfl; (with_reducible repeat (first | refine blk_drewN ?_ _ | refine blk_drew ?_ | refine blk_alloc ?_ _)); exact BK635.out)) (below_size (by repeat (first | (with_reducible first | exact HB.out | apply below_alloc | apply pw_below_drewN | apply below_drew1 | refine below_set ?_ GE633.out | refine below_set ?_ GE635.out) | exact HB.out)))); have n4_ := Aside0.mk (blk_below (g := gb633) (o := .cells #[.int .i64 ((rd_T70 t629 x13_1).f0), .int .i64 ((rd_T70 t629 x13_1).f1)] 70 (0, 0)) (by (with_reducible repeat (first | refine blk_drewN ?_ _ | refine blk_drew ?_ | refine blk_alloc ?_ _)); refine blk_far ?_ NB633_635.out _; (with_reducible repeat (first | refine blk_drewN ?_ _ | refine blk_drew ?_ | refine blk_alloc ?_ _)); refine blk_far ?_ NB633_635.out _; (with_reducible repeat (first | refine blk_drewN ?_ _ | refine blk_drew ?_ | refine blk_alloc ?_ _)); exact BK633.out) hb); have n5_ := Aside0.mk (blk_below (g := gb635) (o := .cells #[.int .i64 ((rd_T70 t629 x19_2).f0), .int .i64 ((rd_T70 t629 x19_2).f1)] 70 (0, 0)) (by (with_reducible repeat (first | refine blk_drewN ?_ _ | refine blk_drew ?_ | refine blk_alloc ?_ _)); refine blk_put (cs := #[.int .i64 ((rd_T70 t629 x19_2).f0), .int .i64 0]) ?_ 1 _ rfl; (with_reducible repeat (first | refine blk_drewN ?_ _ | refine blk_drew ?_ | refine blk_alloc ?_ _)); refine blk_put (cs := #[.int .i64 0, .int .i64 0]) ?_ 0 _ rfl; (with_reducible repeat (first | refine blk_drewN ?_ _ | refine blk_drew ?_ | refine blk_alloc ?_ _)); exact BK635.out) hb); have n6_ := Aside0.mk (below_step (by repeat (first | (with_reducible first | exact HB.out | apply below_alloc | apply pw_below_drewN | apply below_drew1 | refine below_set ?_ GE633.out | refine below_set ?_ GE635.out) | exact HB.out)) hb); clear HO_4; clear HO_11; clear HO_17; clear BK633; clear BK635; clear HB; have HO_4 := n0_; have HO_11 := n1_; have HO_17 := n2_; have HO638 := n3_; have BK633 := n4_; have BK635 := n5_; have HB := n6_; clear n0_ n1_ n2_ n3_ n4_ n5_ n6_; clear hb ho20))
                          go_ret2
                          exact ⟨_, by first | rfl | (simp [errW_none, errW_some] <;> rfl) | (simp [*, errW_none, errW_some] <;> rfl), by (with_reducible repeat (first | apply Kd.R_alloc | apply Kd.R_drewN | apply Kd.R_drew)); exact Kd.R_mono HO638.out (fun _ hk => trivial), by repeat (first | (with_reducible first | exact HB.out | apply below_alloc | apply pw_below_drewN | apply below_drew1 | refine below_set ?_ GE633.out | refine below_set ?_ GE635.out) | exact HB.out)⟩
                        · rw [if_neg c14] at H
                          have c14b0 : decide (((rd_T70 t629 x19_2).f1) < ((rd_T70 t629 x13_1).f1)) = false := decide_eq_false c14
                          clear c14
                          have H' := Aside0.mk H
                          clear H
                          have p634 : 0 ≤ (x19_2 : Int) := of_decide_eq_true (by first | (with_reducible assumption) | assumption)
                          have q634 : x19_2 < (t629.length : Int) := of_decide_eq_true (by first | (with_reducible assumption) | assumption)
                          obtain ⟨ad634, e634, hx634_0, hx634_1⟩ := at_T70 (Kd.R_reads' HO_17.out).2.2 x19_2 p634 q634
                          obtain rfl : ad632 = ad634 := (by injection e634)
                          replace p634 := eq_true p634
                          replace q634 := eq_true q634
                          go_wp2_with (first | ((with_reducible refine gate_dst (N := 8) rfl ?_); refine box_event ?hg (N := 8) ?hd (cs := #[.int .i64 0, .int .i64 0]) (t := 70) ?hr ?_; (case hd => rfl); (case hg => rfl); (case hr => first | (go_simp; done) | (go_simp; rfl)); intro gb635 hg w21 hbox hb; have n0_ := Aside0.mk (Kd.R_below (Kd.R_elderB (by (with_reducible repeat (first | apply Kd.R_alloc | apply Kd.R_drewN | apply Kd.R_drew)); exact HO_4.out) gb635 (Nat.le_of_eq hg.symm)) hb); have n1_ := Aside0.mk (Kd.R_below (Kd.R_elderB (by (with_reducible repeat (first | apply Kd.R_alloc | apply Kd.R_drewN | apply Kd.R_drew)); exact HO_11.out) gb635 (Nat.le_of_eq hg.symm)) hb); have n2_ := Aside0.mk (Kd.R_below (Kd.R_elderB (by (with_reducible repeat (first | apply Kd.R_alloc | apply Kd.R_drewN | apply Kd.R_drew)); exact HO_17.out) gb635 (Nat.le_of_eq hg.symm)) hb); have n3_ := Aside0.mk (blk_below (g := gb633) (o := .cells #[.int .i64 ((rd_T70 t629 x13_1).f0), .int .i64 ((rd_T70 t629 x13_1).f1)] 70 (0, 0)) (by (with_reducible repeat (first | refine blk_drewN ?_ _ | refine blk_drew ?_ | refine blk_alloc ?_ _)); exact BK633.out) hb); have n4_ := Aside0.mk (below_step (by repeat (first | (with_reducible first | exact HB.out | apply below_alloc | apply pw_below_drewN | apply below_drew1 | refine below_set ?_ GE633.out) | exact HB.out)) hb); have n5_ := Aside0.mk (hbox); have n6_ := Aside0.mk ((by rw [hg]; exact (below_size (by repeat (first | (with_reducible first | exact HB.out | apply below_alloc | apply pw_below_drewN | apply below_drew1 | refine below_set ?_ GE633.out) | exact HB.out))) : w.heap.size ≤ gb635)); have n7_ := Aside0.mk ((by rw [hg]; exact (below_size (by repeat (first | (with_reducible first | exact HB.out | apply below_alloc | apply pw_below_drewN | apply below_drew1 | refine below_set ?_ GE633.out) | exact HB.out))) : w.heap.size ≤ gb635)); have n8_ := Aside0.mk ((by rw [hg]; exact Nat.ne_of_lt (blk_lt (g := gb633) (o := .cells #[.int .i64 ((rd_T70 t629 x13_1).f0), .int .i64 ((rd_T70 t629 x13_1).f1)] 70 (0, 0)) (by (with_reducible repeat (first | refine blk_drewN ?_ _ | refine blk_drew ?_ | refine blk_alloc ?_ _)); exact BK633.out)) : gb633 ≠ gb635)); have n9_ := Aside0.mk ((by rw [hg]; exact Nat.ne_of_gt (blk_lt (g := gb633) (o := .cells #[.int .i64 ((rd_T70 t629 x13_1).f0), .int .i64 ((rd_T70 t629 x13_1).f1)] 70 (0, 0)) (by (with_reducible repeat (first | refine blk_drewN ?_ _ | refine blk_drew ?_ | refine blk_alloc ?_ _)); exact BK633.out)) : gb635 ≠ gb633)); clear HO_4; clear HO_11; clear HO_17; clear BK633; clear HB; have HO_4 := n0_; have HO_11 := n1_; have HO_17 := n2_; have BK633 := n3_; have HB := n4_; have BK635 := n5_; have GW635 := n6_; have GE635 := n7_; have NB633_635 := n8_; have NB635_633 := n9_; clear n0_ n1_ n2_ n3_ n4_ n5_ n6_ n7_ n8_ n9_; clear hb hbox hg; have hnb22 := NB635_633.out; have hnc22 := NB633_635.out; have hcz23_0 : w21.cell? ⟨gb635, 0, none⟩ = some (.int .i64 0) := (blk_cell BK635.out 0).trans rfl; have hcz23_1 : w21.cell? ⟨gb635, 1, none⟩ = some (.int .i64 0) := (blk_cell BK635.out 1).trans rfl; have hfz23_0 := blk_frozen BK635.out 0; have hfz23_1 := blk_frozen BK635.out 1; have hcz24_0 : w21.cell? ⟨gb633, 0, none⟩ = some (.int .i64 ((rd_T70 t629 x13_1).f0)) := (blk_cell BK633.out 0).trans rfl; have hcz24_1 : w21.cell? ⟨gb633, 1, none⟩ = some (.int .i64 ((rd_T70 t629 x13_1).f1)) := (blk_cell BK633.out 1).trans rfl; have hfz24_0 := blk_frozen BK633.out 0; have hfz24_1 := blk_frozen BK633.out 1))
                          go_roundg k2
                          case measure => have := HK1.out; have := HK2.out; omega
                          case rel => exact ⟨(wrap64 (x19_2 + 1)), (by first | rfl | (simp; done) | (simp [*]; done)), H', ⟨by have := HK1.out; have := HK2.out; omega⟩, ⟨by (with_reducible repeat (first | apply Kd.R_alloc | apply Kd.R_drewN | apply Kd.R_drew)); exact Kd.R_mono (Kd.R_far (p := ⟨gb635, 1, none⟩) (Kd.R_far (p := ⟨gb635, 0, none⟩) (Kd.R_mono HO_4.out (fun k_ hk => (⟨hk, hk.2⟩ : _ ∧ k_ ≠ gb635))) (fun _ hk => hk.2) (.int .i64 ((rd_T70 t629 x19_2).f0))) (fun _ hk => hk.2) (.int .i64 ((rd_T70 t629 x19_2).f1))) (fun _ hk => hk.1.1)⟩, ⟨by (with_reducible repeat (first | apply Kd.R_alloc | apply Kd.R_drewN | apply Kd.R_drew)); exact Kd.R_mono (Kd.R_far (p := ⟨gb635, 1, none⟩) (Kd.R_far (p := ⟨gb635, 0, none⟩) (Kd.R_mono HO_11.out (fun k_ hk => (⟨hk, hk.2⟩ : _ ∧ k_ ≠ gb635))) (fun _ hk => hk.2) (.int .i64 ((rd_T70 t629 x19_2).f0))) (fun _ hk => hk.2) (.int .i64 ((rd_T70 t629 x19_2).f1))) (fun _ hk => hk.1.1)⟩, ⟨by (with_reducible repeat (first | apply Kd.R_alloc | apply Kd.R_drewN | apply Kd.R_drew)); exact Kd.R_mono (Kd.R_far (p := ⟨gb635, 1, none⟩) (Kd.R_far (p := ⟨gb635, 0, none⟩) (Kd.R_mono HO_17.out (fun k_ hk => (⟨hk, hk.2⟩ : _ ∧ k_ ≠ gb635))) (fun _ hk => hk.2) (.int .i64 ((rd_T70 t629 x19_2).f0))) (fun _ hk => hk.2) (.int .i64 ((rd_T70 t629 x19_2).f1))) (fun _ hk => hk.1.1)⟩, ⟨by (with_reducible repeat (first | refine blk_drewN ?_ _ | refine blk_drew ?_ | refine blk_alloc ?_ _)); refine blk_far ?_ NB633_635.out _; (with_reducible repeat (first | refine blk_drewN ?_ _ | refine blk_drew ?_ | refine blk_alloc ?_ _)); refine blk_far ?_ NB633_635.out _; (with_reducible repeat (first | refine blk_drewN ?_ _ | refine blk_drew ?_ | refine blk_alloc ?_ _)); exact BK633.out⟩, ⟨by repeat (first | (with_reducible first | exact HB.out | apply below_alloc | apply pw_below_drewN | apply below_drew1 | refine below_set ?_ GE633.out | refine below_set ?_ GE635.out) | exact HB.out)⟩⟩
                      · rw [if_neg c13] at H
                        have c13b0 : decide (((rd_T70 t629 x13_1).f0) < ((rd_T70 t629 x19_2).f0)) = false := decide_eq_false c13
                        clear c13
                        have H' := Aside0.mk H
                        clear H
                        have p634 : 0 ≤ (x19_2 : Int) := of_decide_eq_true (by first | (with_reducible assumption) | assumption)
                        have q634 : x19_2 < (t629.length : Int) := of_decide_eq_true (by first | (with_reducible assumption) | assumption)
                        obtain ⟨ad634, e634, hx634_0, hx634_1⟩ := at_T70 (Kd.R_reads' HO_17.out).2.2 x19_2 p634 q634
                        obtain rfl : ad632 = ad634 := (by injection e634)
                        replace p634 := eq_true p634
                        replace q634 := eq_true q634
                        go_wp2_with (first | ((with_reducible refine gate_dst (N := 8) rfl ?_); refine box_event ?hg (N := 8) ?hd (cs := #[.int .i64 0, .int .i64 0]) (t := 70) ?hr ?_; (case hd => rfl); (case hg => rfl); (case hr => first | (go_simp; done) | (go_simp; rfl)); intro gb635 hg w25 hbox hb; have n0_ := Aside0.mk (Kd.R_below (Kd.R_elderB (by (with_reducible repeat (first | apply Kd.R_alloc | apply Kd.R_drewN | apply Kd.R_drew)); exact HO_4.out) gb635 (Nat.le_of_eq hg.symm)) hb); have n1_ := Aside0.mk (Kd.R_below (Kd.R_elderB (by (with_reducible repeat (first | apply Kd.R_alloc | apply Kd.R_drewN | apply Kd.R_drew)); exact HO_11.out) gb635 (Nat.le_of_eq hg.symm)) hb); have n2_ := Aside0.mk (Kd.R_below (Kd.R_elderB (by (with_reducible repeat (first | apply Kd.R_alloc | apply Kd.R_drewN | apply Kd.R_drew)); exact HO_17.out) gb635 (Nat.le_of_eq hg.symm)) hb); have n3_ := Aside0.mk (blk_below (g := gb633) (o := .cells #[.int .i64 ((rd_T70 t629 x13_1).f0), .int .i64 ((rd_T70 t629 x13_1).f1)] 70 (0, 0)) (by (with_reducible repeat (first | refine blk_drewN ?_ _ | refine blk_drew ?_ | refine blk_alloc ?_ _)); exact BK633.out) hb); have n4_ := Aside0.mk (below_step (by repeat (first | (with_reducible first | exact HB.out | apply below_alloc | apply pw_below_drewN | apply below_drew1 | refine below_set ?_ GE633.out) | exact HB.out)) hb); have n5_ := Aside0.mk (hbox); have n6_ := Aside0.mk ((by rw [hg]; exact (below_size (by repeat (first | (with_reducible first | exact HB.out | apply below_alloc | apply pw_below_drewN | apply below_drew1 | refine below_set ?_ GE633.out) | exact HB.out))) : w.heap.size ≤ gb635)); have n7_ := Aside0.mk ((by rw [hg]; exact (below_size (by repeat (first | (with_reducible first | exact HB.out | apply below_alloc | apply pw_below_drewN | apply below_drew1 | refine below_set ?_ GE633.out) | exact HB.out))) : w.heap.size ≤ gb635)); have n8_ := Aside0.mk ((by rw [hg]; exact Nat.ne_of_lt (blk_lt (g := gb633) (o := .cells #[.int .i64 ((rd_T70 t629 x13_1).f0), .int .i64 ((rd_T70 t629 x13_1).f1)] 70 (0, 0)) (by (with_reducible repeat (first | refine blk_drewN ?_ _ | refine blk_drew ?_ | refine blk_alloc ?_ _)); exact BK633.out)) : gb633 ≠ gb635)); have n9_ := Aside0.mk ((by rw [hg]; exact Nat.ne_of_gt (blk_lt (g := gb633) (o := .cells #[.int .i64 ((rd_T70 t629 x13_1).f0), .int .i64 ((rd_T70 t629 x13_1).f1)] 70 (0, 0)) (by (with_reducible repeat (first | refine blk_drewN ?_ _ | refine blk_drew ?_ | refine blk_alloc ?_ _)); exact BK633.out)) : gb635 ≠ gb633)); clear HO_4; clear HO_11; clear HO_17; clear BK633; clear HB; have HO_4 := n0_; have HO_11 := n1_; have HO_17 := n2_; have BK633 := n3_; have HB := n4_; have BK635 := n5_; have GW635 := n6_; have GE635 := n7_; have NB633_635 := n8_; have NB635_633 := n9_; clear n0_ n1_ n2_ n3_ n4_ n5_ n6_ n7_ n8_ n9_; clear hb hbox hg; have hnb26 := NB635_633.out; have hnc26 := NB633_635.out; have hcz27_0 : w25.cell? ⟨gb635, 0, none⟩ = some (.int .i64 0) := (blk_cell BK635.out 0).trans rfl; have hcz27_1 : w25.cell? ⟨gb635, 1, none⟩ = some (.int .i64 0) := (blk_cell BK635.out 1).trans rfl; have hfz27_0 := blk_frozen BK635.out 0; have hfz27_1 := blk_frozen BK635.out 1; have hcz28_0 : w25.cell? ⟨gb633, 0, none⟩ = some (.int .i64 ((rd_T70 t629 x13_1).f0)) := (blk_cell BK633.out 0).trans rfl; have hcz28_1 : w25.cell? ⟨gb633, 1, none⟩ = some (.int .i64 ((rd_T70 t629 x13_1).f1)) := (blk_cell BK633.out 1).trans rfl; have hfz28_0 := blk_frozen BK633.out 0; have hfz28_1 := blk_frozen BK633.out 1))
                        go_roundg k2
                        case measure => have := HK1.out; have := HK2.out; omega
                        case rel => exact ⟨(wrap64 (x19_2 + 1)), (by first | rfl | (simp; done) | (simp [*]; done)), H', ⟨by have := HK1.out; have := HK2.out; omega⟩, ⟨by (with_reducible repeat (first | apply Kd.R_alloc | apply Kd.R_drewN | apply Kd.R_drew)); exact Kd.R_mono (Kd.R_far (p := ⟨gb635, 1, none⟩) (Kd.R_far (p := ⟨gb635, 0, none⟩) (Kd.R_mono HO_4.out (fun k_ hk => (⟨hk, hk.2⟩ : _ ∧ k_ ≠ gb635))) (fun _ hk => hk.2) (.int .i64 ((rd_T70 t629 x19_2).f0))) (fun _ hk => hk.2) (.int .i64 ((rd_T70 t629 x19_2).f1))) (fun _ hk => hk.1.1)⟩, ⟨by (with_reducible repeat (first | apply Kd.R_alloc | apply Kd.R_drewN | apply Kd.R_drew)); exact Kd.R_mono (Kd.R_far (p := ⟨gb635, 1, none⟩) (Kd.R_far (p := ⟨gb635, 0, none⟩) (Kd.R_mono HO_11.out (fun k_ hk => (⟨hk, hk.2⟩ : _ ∧ k_ ≠ gb635))) (fun _ hk => hk.2) (.int .i64 ((rd_T70 t629 x19_2).f0))) (fun _ hk => hk.2) (.int .i64 ((rd_T70 t629 x19_2).f1))) (fun _ hk => hk.1.1)⟩, ⟨by (with_reducible repeat (first | apply Kd.R_alloc | apply Kd.R_drewN | apply Kd.R_drew)); exact Kd.R_mono (Kd.R_far (p := ⟨gb635, 1, none⟩) (Kd.R_far (p := ⟨gb635, 0, none⟩) (Kd.R_mono HO_17.out (fun k_ hk => (⟨hk, hk.2⟩ : _ ∧ k_ ≠ gb635))) (fun _ hk => hk.2) (.int .i64 ((rd_T70 t629 x19_2).f0))) (fun _ hk => hk.2) (.int .i64 ((rd_T70 t629 x19_2).f1))) (fun _ hk => hk.1.1)⟩, ⟨by (with_reducible repeat (first | refine blk_drewN ?_ _ | refine blk_drew ?_ | refine blk_alloc ?_ _)); refine blk_far ?_ NB633_635.out _; (with_reducible repeat (first | refine blk_drewN ?_ _ | refine blk_drew ?_ | refine blk_alloc ?_ _)); refine blk_far ?_ NB633_635.out _; (with_reducible repeat (first | refine blk_drewN ?_ _ | refine blk_drew ?_ | refine blk_alloc ?_ _)); exact BK633.out⟩, ⟨by repeat (first | (with_reducible first | exact HB.out | apply below_alloc | apply pw_below_drewN | apply below_drew1 | refine below_set ?_ GE633.out | refine below_set ?_ GE635.out) | exact HB.out)⟩⟩
                    · rw [if_neg c12] at H
                      exact absurd H (by simp)
                  · rw [if_neg c11] at H
                    exact absurd H (by simp)
                · rw [if_neg c10] at H
                  have c10b0 : decide (x19_2 < (t629.length : Int)) = false := decide_eq_false c10
                  clear c10
                  have H' := Aside0.mk H
                  clear H
                  go_wp2
                  go_roundg k2
                  case measure => have := HK1.out; have := HK2.out; omega
                  case rel => exact ⟨(wrap64 (x13_1 + 1)), (by first | rfl | (simp; done) | (simp [*]; done)), H', ⟨by have := HK1.out; have := HK2.out; omega⟩, ⟨by (with_reducible repeat (first | apply Kd.R_alloc | apply Kd.R_drewN | apply Kd.R_drew)); exact Kd.R_mono HO_4.out (fun _ hk => trivial)⟩, ⟨by (with_reducible repeat (first | apply Kd.R_alloc | apply Kd.R_drewN | apply Kd.R_drew)); exact Kd.R_mono HO_11.out (fun _ hk => trivial)⟩, ⟨by repeat (first | (with_reducible first | exact HB.out | apply below_alloc | apply pw_below_drewN | apply below_drew1 | refine below_set ?_ GE633.out) | exact HB.out)⟩⟩
          · rw [if_neg c7] at H
            exact absurd H (by simp)
        · rw [if_neg c6] at H
          exact absurd H (by simp)
      · rw [if_neg c5] at H
        have c5b0 : decide (x13_1 < (t629.length : Int)) = false := decide_eq_false c5
        clear c5
        simp only [Option.some.injEq, Prod.mk.injEq] at H
        obtain ⟨rfl, rfl⟩ := H
        go_wp2
        go_ret2
        exact ⟨_, by first | rfl | (simp [errW_none, errW_some] <;> rfl) | (simp [*, errW_none, errW_some] <;> rfl), by first | exact Kd.R_nil _ _ _ _ _ | exact Kd.N_nil _ _ _ _ _ | exact Kd.V_nil _ _ _ _ _ | exact Kd.Q_nil _ _ _ _ _ | exact Kd.S_nil _ _ _ _ _, by repeat (first | (with_reducible first | exact HB.out | apply below_alloc | apply pw_below_drewN | apply below_drew1) | exact HB.out)⟩

end Go.Proofs.Ytllnieknogficaa.K
namespace Go.Proofs.Ytllnieknogficaa.K
open Go.RowKit Go.Proofs.YtllnieknogficaaW.PrintWords Go.Proofs.YtllnieknogficaaW.PrintLast Go.Proofs.YtllnieknogficaaW.PrintMore
attribute [local go_sem] max2_int min2_int max_two min_two max_three min_three max_four min_four   -- for this text's walks alone
set_option linter.unusedVariables false
set_option linter.unusedSimpArgs false

/-! ### spec_CrossingOf: function 50 -/
def spec_CrossingOf.f (k : Nat) (l0 : List (List Int)) : Option ((List (S70)) × Bool) := (spec_plGood.f k l0).bind fun t639 => (if t639 = true then ((spec_plCrossing.f k l0).bind fun bt640 => (some (bt640.1, bt640.2))) else (some (([] : List (S70)), false)))
theorem spec_CrossingOf.mono : ∀ a0 k, LeO (spec_CrossingOf.f k a0) (spec_CrossingOf.f (k + 1) a0) := by
  intro a0 k
  unfold spec_CrossingOf.f
  repeat' first
      | (with_reducible exact spec_plCrossing.mono _ _)
      | (with_reducible exact spec_plGood.mono _ _)
      | (with_reducible exact LeO.refl _)
      | (with_reducible exact LeO.none _)
      | (with_reducible refine LeO.ite ?_ ?_)
      | (with_reducible refine LeO.bind ?_ (fun _ => ?_))
      | exact spec_plCrossing.mono _ _
      | exact spec_plGood.mono _ _
      | exact LeO.none _
      | refine LeO.ite ?_ ?_
      | refine LeO.bind ?_ (fun _ => ?_)
set_option maxHeartbeats 8000000 in
set_option maxRecDepth 100000 in
theorem spec_CrossingOf.calls (k : Nat) (A0 : Option Addr) (c0 : Nat) (l0 : List (List Int)) (r1 : List (S70)) (r2 : Bool) (w : World) (hr0 : Kd.C (Kd.slice 3 (Kd.int .i64)) w A0 l0.length l0) (hc0 : l0.length ≤ c0) (h : spec_CrossingOf.f k l0 = some (r1, r2)) :
    Calls Try.prog 50 #[.slice A0 l0.length c0] w fun e w' => ∃ v0_ : Value, e = .returned (.tuple #[v0_, .bool r2]) ∧ Kd.R k70 70 w' w.heap.size (fun _ => True) v0_ r1 ∧ Below w.heap.size w w' := by
  have HR0 := Aside0.mk hr0
  have HC0 := Aside0.mk hc0
  clear hr0 hc0
  have HB := Aside0.mk (Below.refl w.heap.size w)
  have H : ((spec_plGood.f k l0).bind fun t639 => (if t639 = true then ((spec_plCrossing.f k l0).bind fun bt640 => (some (bt640.1, bt640.2))) else (some (([] : List (S70)), false)))) = some (r1, r2) := h
  clear h
  replace H := Option.bind_eq_some_iff.mp H
  obtain ⟨t639, A20, H⟩ := H
  replace H : (if t639 = true then ((spec_plCrossing.f k l0).bind fun bt640 => (some (bt640.1, bt640.2))) else (some (([] : List (S70)), false))) = some (r1, r2) := H
  have A2 := Aside0.mk A20
  clear A20
  by_cases c3 : t639 = true
  · subst c3
    have H1 : ((spec_plCrossing.f k l0).bind fun bt640 => (some (bt640.1, bt640.2))) = some (r1, r2) := by rw [if_pos rfl] at H; exact H
    clear H
    have H := H1
    clear H1
    replace H := Option.bind_eq_some_iff.mp H
    obtain ⟨⟨t640, t641⟩, A40, H⟩ := H
    replace H : (some (t640, t641)) = some (r1, r2) := H
    have A4 := Aside0.mk A40
    clear A40
    simp only [Option.some.injEq, Prod.mk.injEq] at H
    obtain ⟨rfl, rfl⟩ := H
    go_enter Try.func50, Try.ntmps50
    go_wp2_with (first | ((with_reducible refine gate_callee (f := 125) rfl ?_); refine goesL_ (some 5) rfl rfl Try.func125 (by kernel_rfl) rfl #[.slice A0 l0.length c0] rfl (by (try simp only [List.map_toArray, List.map_cons, List.map_nil]); first | done | rfl | (simp only [List.length_drop, List.length_take]; rfl)) ?_; (with_reducible refine (spec_plGood.calls k _ _ l0 true _ ?side1 ?side2 A2.out).mono ?_); (case side1 => repeat (first | exact HR0.out | (with_reducible refine Kd.C_alloc ?_ _) | (with_reducible refine Kd.C_drewN ?_ _) | (with_reducible refine Kd.C_drew ?_))); (case side2 => exact HC0.out); rintro e w' ⟨rfl, ⟨nd, rfl⟩⟩; refine ⟨_, rfl, ?_⟩) | ((with_reducible refine gate_callee (f := 140) rfl ?_); refine goesL_ (some 8) rfl rfl Try.func140 (by kernel_rfl) rfl #[.slice A0 l0.length c0] rfl (by (try simp only [List.map_toArray, List.map_cons, List.map_nil]); first | done | rfl | (simp only [List.length_drop, List.length_take]; rfl)) ?_; (with_reducible refine (spec_plCrossing.calls k _ _ l0 t640 t641 _ ?side1 ?side2 A4.out).mono ?_); (case side1 => repeat (first | exact HR0.out | (with_reducible refine Kd.C_alloc ?_ _) | (with_reducible refine Kd.C_drewN ?_ _) | (with_reducible refine Kd.C_drew ?_))); (case side2 => exact HC0.out); rintro e w5 ⟨v642, rfl, ho0, hb⟩; refine ⟨_, rfl, ?_⟩; have n0_ := Aside0.mk (Kd.R_lower ho0 (below_size (by repeat (first | (with_reducible first | exact HB.out | apply below_alloc | apply pw_below_drewN | apply below_drew1) | exact HB.out)))); have n1_ := Aside0.mk (below_step (by repeat (first | (with_reducible first | exact HB.out | apply below_alloc | apply pw_below_drewN | apply below_drew1) | exact HB.out)) hb); clear HB; have HO643 := n0_; have HB := n1_; clear n0_ n1_; (try clear hb); (try clear hb2); (try clear hk); (try clear hi); (try clear ho0)))
    go_ret2
    exact ⟨_, by first | rfl | (simp [errW_none, errW_some] <;> rfl) | (simp [*, errW_none, errW_some] <;> rfl), by (with_reducible repeat (first | apply Kd.R_alloc | apply Kd.R_drewN | apply Kd.R_drew)); exact HO643.out, by repeat (first | (with_reducible first | exact HB.out | apply below_alloc | apply pw_below_drewN | apply below_drew1) | exact HB.out)⟩
  · replace c3 := Bool.eq_false_iff.mpr c3
    subst c3
    have H1 : (some (([] : List (S70)), false)) = some (r1, r2) := by rw [if_neg (show ¬ (false = true) by decide)] at H; exact H
    clear H
    have H := H1
    clear H1
    simp only [Option.some.injEq, Prod.mk.injEq] at H
    obtain ⟨rfl, rfl⟩ := H
    go_enter Try.func50, Try.ntmps50
    go_wp2_with (first | ((with_reducible refine gate_callee (f := 125) rfl ?_); refine goesL_ (some 5) rfl rfl Try.func125 (by kernel_rfl) rfl #[.slice A0 l0.length c0] rfl (by (try simp only [List.map_toArray, List.map_cons, List.map_nil]); first | done | rfl | (simp only [List.length_drop, List.length_take]; rfl)) ?_; (with_reducible refine (spec_plGood.calls k _ _ l0 false _ ?side1 ?side2 A2.out).mono ?_); (case side1 => repeat (first | exact HR0.out | (with_reducible refine Kd.C_alloc ?_ _) | (with_reducible refine Kd.C_drewN ?_ _) | (with_reducible refine Kd.C_drew ?_))); (case side2 => exact HC0.out); rintro e w' ⟨rfl, ⟨nd, rfl⟩⟩; refine ⟨_, rfl, ?_⟩))
    go_ret2
    exact ⟨_, by first | rfl | (simp [errW_none, errW_some] <;> rfl) | (simp [*, errW_none, errW_some] <;> rfl), by first | exact Kd.R_nil _ _ _ _ _ | exact Kd.N_nil _ _ _ _ _ | exact Kd.V_nil _ _ _ _ _ | exact Kd.Q_nil _ _ _ _ _ | exact Kd.S_nil _ _ _ _ _, by repeat (first | (with_reducible first | exact HB.out | apply below_alloc | apply pw_below_drewN | apply below_drew1) | exact HB.out)⟩

end Go.Proofs.Ytllnieknogficaa.K
namespace Go.Proofs.Ytllnieknogficaa.K
open Go.RowKit Go.Proofs.YtllnieknogficaaW.PrintWords Go.Proofs.YtllnieknogficaaW.PrintLast Go.Proofs.YtllnieknogficaaW.PrintMore
attribute [local go_sem] max2_int min2_int max_two min_two max_three min_three max_four min_four   -- for this text's walks alone
set_option linter.unusedVariables false
set_option linter.unusedSimpArgs false
/-- The first answer from place j on. -/
def rowFrom {β : Type} (P : Nat → Option β) (n j : Nat) : Option β := ((List.range n).drop j).findSome? P
theorem rowFrom_end {β : Type} (P : Nat → Option β) (n j : Nat) (h : n ≤ j) : rowFrom P n j = none := by
  unfold rowFrom
  rw [List.drop_of_length_le (by simpa using h)]
  rfl
theorem rowFrom_step {β : Type} (P : Nat → Option β) (n j : Nat) (h : j < n) : rowFrom P n j = match P j with | some b => some b | none => rowFrom P n (j + 1) := by
  unfold rowFrom
  rw [List.drop_eq_getElem_cons (by simpa using h), List.findSome?_cons, List.getElem_range]
  rfl
theorem rowFrom_none {β : Type} (P : Nat → Option β) (n : Nat) : ∀ d j, n - j = d → (∀ q, j ≤ q → q < n → P q = none) → rowFrom P n j = none := by
  intro d
  induction d with
  | zero => intro j hd _; exact rowFrom_end P n j (by omega)
  | succ d ih =>
    intro j hd h
    rw [rowFrom_step P n j (by omega), h j (by omega) (by omega)]
    exact ih (j + 1) (by omega) (fun q h1 h2 => h q (by omega) h2)
theorem rowFrom_skip {β : Type} (P : Nat → Option β) (n i : Nat) (hi : i ≤ n) (h : ∀ q, q < i → P q = none) : ∀ d j, i - j = d → j ≤ i → rowFrom P n j = rowFrom P n i := by
  intro d
  induction d with
  | zero => intro j hd hj; rw [show j = i by omega]
  | succ d ih =>
    intro j hd hj
    rw [rowFrom_step P n j (by omega), h j (by omega)]
    exact ih (j + 1) (by omega) (by omega)
theorem rowFrom_cut {β : Type} (P : Nat → Option β) (n i : Nat) (hi : i ≤ n) (h : ∀ q, i ≤ q → q < n → P q = none) : ∀ d j, i - j = d → j ≤ i → rowFrom P n j = rowFrom P i j := by
  intro d
  induction d with
  | zero => intro j hd hj; rw [show j = i by omega, rowFrom_end P i i (Nat.le_refl _)]; exact rowFrom_none P n _ i rfl h
  | succ d ih =>
    intro j hd hj
    rw [rowFrom_step P n j (by omega), rowFrom_step P i j (by omega), ih (j + 1) (by omega) (by omega)]
theorem rowFrom_congr {β : Type} (P Q : Nat → Option β) (n j : Nat) (h : ∀ q, q < n → P q = Q q) : rowFrom P n j = rowFrom Q n j := by
  unfold rowFrom
  have : ∀ l : List Nat, (∀ q ∈ l, q < n) → l.findSome? P = l.findSome? Q := by
    intro l hl
    induction l with
    | nil => rfl
    | cons a t ih =>
      rw [List.findSome?_cons, List.findSome?_cons, h a (hl a (List.mem_cons_self ..)), ih (fun q hq => hl q (List.mem_cons_of_mem _ hq))]
  exact this _ (fun q hq => List.mem_range.1 (List.mem_of_mem_drop hq))
def at_ (l : List (List Int)) (i j : Nat) : Int := (l.getD i []).getD j 0
/-- The first crossing: its two cells. -/
def crossY (l : List (List Int)) (i j : Nat) : Option (Int × Int × Int × Int) := rowFrom (fun r => rowFrom (fun c => if at_ l r c > 0 then some ((i : Int), (j : Int), (r : Int), (c : Int)) else none) j 0) l.length (i + 1)
def crossX (l : List (List Int)) (i : Nat) : Option (Int × Int × Int × Int) := rowFrom (fun j => if at_ l i j = 0 then none else crossY l i j) l.length 0
def crossOf (l : List (List Int)) : Option (Int × Int × Int × Int) := rowFrom (fun i => crossX l i) l.length 0
def crossR (o : Option (Int × Int × Int × Int)) : Int × Int × Int × Int × Bool := match o with | some (a, b, c, d) => (a, b, c, d, true) | none => (0, 0, 0, 0, false)
theorem row_len (l : List (List Int)) (hr : ∀ r ∈ l, r.length = l.length) (i : Nat) (h : i < l.length) : l[i].length = l.length := hr _ (List.getElem_mem h)
theorem at_row (l : List (List Int)) (i j : Nat) (h : i < l.length) : rd l[i] (j : Int) = at_ l i j := by
  rw [rd_nat_getD]
  simp [at_, h]
section
variable (l : List (List Int)) (hl : l.length ≤ 8) (hr : ∀ r ∈ l, r.length = l.length)
include hl hr
theorem cross_l3 (i j r : Nat) (hi : i < l.length) (hj : j < l.length) (hrr : r < l.length) (x11 : List (List Int)) (x12 x13 : Int) (x18 : List Int) (x19 x20 : Int) (q : Int × Int × Int × Int × Bool)
    (hnext : (∀ c, c < j → ¬ at_ l r c > 0) → Ev (fun k => impl_crossing.l2 k l (i : Int) (j : Int) ((r + 1 : Nat) : Int) x11 x12 x13 x18 x19 x20) q) (hhit : ∀ c, rowFrom (fun c => if at_ l r c > 0 then some ((i : Int), (j : Int), (r : Int), (c : Int)) else none) j 0 = some ((i : Int), (j : Int), (r : Int), (c : Int)) → q = ((i : Int), (j : Int), (r : Int), (c : Int), true)) :
    ∀ d (c : Nat), c ≤ j → j - c = d → (∀ q, q < c → ¬ at_ l r q > 0) → Ev (fun k => impl_crossing.l3 k l (i : Int) (j : Int) (r : Int) x11 x12 x13 x18 x19 x20 (j : Int) (c : Int)) q := by
  intro d
  induction d with
  | zero =>
    intro c hc hd hn
    have : c = j := by omega
    subst this
    refine ev_succ ?_
    simp only [impl_crossing.l3, if_neg (Int.lt_irrefl _), wrap64_nat_succ (show r < 9223372036854775807 by omega)]
    exact hnext hn
  | succ d ih =>
    intro c hc hd hn
    have h1 : (c : Int) < (j : Int) := by omega
    have h2 : (0 : Int) ≤ (r : Int) := by omega
    have h3 : (r : Int) < (l.length : Int) := by omega
    have h4 : (0 : Int) ≤ (c : Int) := by omega
    have hlen := row_len l hr r hrr
    have h5 : (c : Int) < ((rd_L2 l (r : Int)).length : Int) := by rw [rdL_nat l r hrr, hlen]; omega
    have h6 : rd (rd_L2 l (r : Int)) (c : Int) = at_ l r c := by rw [rdL_nat l r hrr]; exact at_row l r c hrr
    refine ev_succ ?_
    simp only [impl_crossing.l3, if_pos h1, if_pos h2, if_pos h3, if_pos h4, if_pos h5, h6, wrap64_nat_succ (show c < 9223372036854775807 by omega)]
    by_cases hp : at_ l r c > 0
    · simp only [if_pos hp]
      refine ev_now _ _ (hhit c ?_).symm
      rw [rowFrom_skip _ j c (by omega) (fun q hq => if_neg (hn q hq)) c 0 (by omega) (by omega), rowFrom_step _ _ _ (by omega), if_pos hp]
    · simp only [if_neg hp]
      refine ih (c + 1) (by omega) (by omega) (fun q hq => ?_)
      by_cases e : q = c
      · subst e; exact hp
      · exact hn q (by omega)
theorem cross_l2 (i j : Nat) (hi : i < l.length) (hj : j < l.length) (x11 : List (List Int)) (x12 x13 : Int) (x18 : List Int) (x19 : Int) (o q : Int × Int × Int × Int × Bool)
    (hnext : Ev (fun k => impl_crossing.l1 k l (i : Int) x11 x12 x13 x18 x19 ((j + 1 : Nat) : Int)) o) (hq : q = match crossY l i j with | some (a, b, c, d) => (a, b, c, d, true) | none => o) :
    ∀ d (r : Nat), i < r → r ≤ l.length → l.length - r = d → crossY l i j = rowFrom (fun r => rowFrom (fun c => if at_ l r c > 0 then some ((i : Int), (j : Int), (r : Int), (c : Int)) else none) j 0) l.length r →
    Ev (fun k => impl_crossing.l2 k l (i : Int) (j : Int) (r : Int) x11 x12 x13 x18 x19 (j : Int)) q := by
  intro d
  induction d with
  | zero =>
    intro r hir hrl hd he
    have : r = l.length := by omega
    subst this
    rw [rowFrom_end _ _ _ (Nat.le_refl _)] at he
    rw [he] at hq
    subst hq
    refine ev_succ ?_
    simp only [impl_crossing.l2, if_neg (Int.lt_irrefl _), wrap64_nat_succ (show j < 9223372036854775807 by omega)]
    exact hnext
  | succ d ih =>
    intro r hir hrl hd he
    have h1 : (r : Int) < (l.length : Int) := by omega
    refine ev_succ ?_
    simp only [impl_crossing.l2, if_pos h1]
    rw [rowFrom_step _ _ _ (by omega)] at he
    refine cross_l3 l hl hr i j r hi hj (by omega) x11 x12 x13 x18 x19 (j : Int) q (fun hn => ?_) (fun c hc => ?_) j 0 (by omega) (by omega) (fun q h => by omega)
    · rw [rowFrom_none _ j j 0 (by omega) (fun q _ h2 => if_neg (hn q h2))] at he
      exact ih (r + 1) (by omega) (by omega) (by omega) he
    · rw [hc] at he
      rw [he] at hq
      exact hq
theorem cross_l1 (i : Nat) (hi : i < l.length) (o q : Int × Int × Int × Int × Bool)
    (hnext : Ev (fun k => impl_crossing.l0 k l l (l.length : Int) ((i + 1 : Nat) : Int)) o) (hq : q = match crossX l i with | some (a, b, c, d) => (a, b, c, d, true) | none => o) :
    ∀ d (j : Nat), j ≤ l.length → l.length - j = d → crossX l i = rowFrom (fun j => if at_ l i j = 0 then none else crossY l i j) l.length j →
    Ev (fun k => impl_crossing.l1 k l (i : Int) l (l.length : Int) (i : Int) l[i] (l[i].length : Int) (j : Int)) q := by
  have hlen := row_len l hr i hi
  intro d
  induction d with
  | zero =>
    intro j hj hd he
    have : j = l.length := by omega
    subst this
    rw [rowFrom_end _ _ _ (Nat.le_refl _)] at he
    rw [he] at hq
    subst hq
    refine ev_succ ?_
    simp only [impl_crossing.l1, hlen, if_neg (Int.lt_irrefl _), wrap64_nat_succ (show i < 9223372036854775807 by omega)]
    exact hnext
  | succ d ih =>
    intro j hj hd he
    have h1 : (j : Int) < (l[i].length : Int) := by omega
    have h2 : (0 : Int) ≤ (j : Int) := by omega
    rw [rowFrom_step _ _ _ (by omega)] at he
    refine ev_succ ?_
    simp only [impl_crossing.l1, if_pos h1, if_pos h2, at_row l i j hi, wrap64_nat_succ (show j < 9223372036854775807 by omega), wrap64_nat_succ (show i < 9223372036854775807 by omega)]
    by_cases hz : at_ l i j = 0
    · rw [if_pos hz] at he
      simp only [if_pos hz]
      exact ih (j + 1) (by omega) (by omega) he
    · rw [if_neg hz] at he
      simp only [if_neg hz]
      cases hy : crossY l i j with
      | none =>
        rw [hy] at he
        exact cross_l2 l hl hr i j hi (by omega) l (l.length : Int) (i : Int) l[i] (l[i].length : Int) q q (ih (j + 1) (by omega) (by omega) he) (by rw [hy]) _ (i + 1) (by omega) (by omega) rfl rfl
      | some b =>
        rw [hy] at he
        have hx : crossX l i = some b := he
        rw [hx] at hq
        obtain ⟨oo, ho⟩ : ∃ oo, Ev (fun k => impl_crossing.l1 k l (i : Int) l (l.length : Int) (i : Int) l[i] (l[i].length : Int) ((j + 1 : Nat) : Int)) oo := by
          have key : ∀ d2 (j2 : Nat), j2 ≤ l.length → l.length - j2 = d2 → ∃ oo, Ev (fun k => impl_crossing.l1 k l (i : Int) l (l.length : Int) (i : Int) l[i] (l[i].length : Int) (j2 : Int)) oo := by
            intro d2
            induction d2 with
            | zero =>
              intro j2 hj2 hd2
              have : j2 = l.length := by omega
              subst this
              refine ⟨o, ev_succ ?_⟩
              simp only [impl_crossing.l1, hlen, if_neg (Int.lt_irrefl _), wrap64_nat_succ (show i < 9223372036854775807 by omega)]
              exact hnext
            | succ d2 ih2 =>
              intro j2 hj2 hd2
              obtain ⟨oo, ho⟩ := ih2 (j2 + 1) (by omega) (by omega)
              have g1 : (j2 : Int) < (l[i].length : Int) := by omega
              have g2 : (0 : Int) ≤ (j2 : Int) := by omega
              by_cases hz2 : at_ l i j2 = 0
              · refine ⟨oo, ev_succ ?_⟩
                simp only [impl_crossing.l1, if_pos g1, if_pos g2, at_row l i j2 hi, if_pos hz2, wrap64_nat_succ (show j2 < 9223372036854775807 by omega)]
                exact ho
              · refine ⟨match crossY l i j2 with | some (a, b, c, d) => (a, b, c, d, true) | none => oo, ev_succ ?_⟩
                simp only [impl_crossing.l1, if_pos g1, if_pos g2, at_row l i j2 hi, if_neg hz2, wrap64_nat_succ (show i < 9223372036854775807 by omega)]
                exact cross_l2 l hl hr i j2 hi (by omega) l (l.length : Int) (i : Int) l[i] (l[i].length : Int) oo _ ho rfl _ (i + 1) (by omega) (by omega) rfl rfl
          exact key _ (j + 1) (by omega) rfl
        exact cross_l2 l hl hr i j hi (by omega) l (l.length : Int) (i : Int) l[i] (l[i].length : Int) oo q ho (by rw [hy]; exact hq) _ (i + 1) (by omega) (by omega) rfl rfl
theorem cross_l0 : ∀ d (i : Nat), i ≤ l.length → l.length - i = d → Ev (fun k => impl_crossing.l0 k l l (l.length : Int) (i : Int)) (crossR (rowFrom (fun i => crossX l i) l.length i)) := by
  intro d
  induction d with
  | zero =>
    intro i hi hd
    have : i = l.length := by omega
    subst this
    refine ev_succ ?_
    simp only [impl_crossing.l0, if_neg (Int.lt_irrefl _)]
    rw [rowFrom_end _ _ _ (Nat.le_refl _)]
    exact ev_now _ _ rfl
  | succ d ih =>
    intro i hi hd
    have hlt : i < l.length := by omega
    have h1 : (i : Int) < (l.length : Int) := by omega
    have h2 : (0 : Int) ≤ (i : Int) := by omega
    refine ev_succ ?_
    simp only [impl_crossing.l0, if_pos h1, if_pos h2, rdL_nat l i hlt]
    refine cross_l1 l hl hr i hlt _ _ (ih (i + 1) (by omega) (by omega)) ?_ _ 0 (by omega) rfl rfl
    rw [rowFrom_step _ _ _ (by omega)]
    cases crossX l i with
    | none => rfl
    | some b => rfl
theorem crossing_ev : Ev (fun k => impl_crossing.f k l) (crossR (crossOf l)) := by
  unfold impl_crossing.f
  have := cross_l0 l hl hr l.length 0 (by omega) (by omega)
  simpa [crossOf] using this
end
/-! ### the reference -/
def mkC (i j : Int) : S70 := ⟨i, j⟩
def cellsRow (l : List (List Int)) (i : Nat) (js : List Nat) : List S70 := (js.filter fun j => decide (at_ l i j > 0)).map fun (j : Nat) => mkC (i : Int) (j : Int)
def cellsOf (l : List (List Int)) (is : List Nat) : List S70 := is.flatMap fun i => cellsRow l i (List.range l.length)
theorem cellsRow_length (l : List (List Int)) (i : Nat) (js : List Nat) : (cellsRow l i js).length ≤ js.length := by
  unfold cellsRow
  rw [List.length_map]
  exact List.length_filter_le _ _
theorem cellsRow_snoc (l : List (List Int)) (i j : Nat) : cellsRow l i (List.range (j + 1)) = cellsRow l i (List.range j) ++ (if at_ l i j > 0 then [mkC (i : Int) (j : Int)] else []) := by
  unfold cellsRow
  rw [List.range_succ, List.filter_append, List.map_append]
  by_cases h : at_ l i j > 0 <;> simp [h]
theorem cellsOf_snoc (l : List (List Int)) (i : Nat) : cellsOf l (List.range (i + 1)) = cellsOf l (List.range i) ++ cellsRow l i (List.range l.length) := by
  unfold cellsOf
  rw [List.range_succ, List.flatMap_append]
  simp
theorem cellsOf_length (l : List (List Int)) (i : Nat) : (cellsOf l (List.range i)).length ≤ i * l.length := by
  induction i with
  | zero => simp [cellsOf]
  | succ i ih =>
    rw [cellsOf_snoc, List.length_append, Nat.succ_mul]
    have := cellsRow_length l i (List.range l.length)
    rw [List.length_range] at this
    omega
theorem cells_l1 (l : List (List Int)) (hl : l.length ≤ 8) (hr : ∀ r ∈ l, r.length = l.length) (i : Nat) (hi : i < l.length) (q : List S70) (hnext : Ev (fun k => spec_plCells.l0 k (cellsOf l (List.range (i + 1))) l (l.length : Int) ((i + 1 : Nat) : Int)) q) :
    ∀ d (j : Nat), j ≤ l.length → l.length - j = d → Ev (fun k => spec_plCells.l1 k (cellsOf l (List.range i) ++ cellsRow l i (List.range j)) (i : Int) l (l.length : Int) (i : Int) l[i] (l[i].length : Int) (j : Int)) q := by
  have hlen := row_len l hr i hi
  intro d
  induction d with
  | zero =>
    intro j hj hd
    have : j = l.length := by omega
    subst this
    refine ev_succ ?_
    simp only [spec_plCells.l1, hlen, if_neg (Int.lt_irrefl _), wrap64_nat_succ (show i < 9223372036854775807 by omega)]
    rw [← cellsOf_snoc]
    exact hnext
  | succ d ih =>
    intro j hj hd
    have h1 : (j : Int) < (l[i].length : Int) := by omega
    have h2 : (0 : Int) ≤ (j : Int) := by omega
    have h3 := cellsOf_length l i
    have h4 := cellsRow_length l i (List.range j)
    have h5 : i * l.length ≤ 8 * 8 := Nat.mul_le_mul (by omega) hl
    rw [List.length_range] at h4
    have h6 : (cellsOf l (List.range i) ++ cellsRow l i (List.range j)).length < 8796093022208 := by rw [List.length_append]; omega
    refine ev_succ ?_
    simp only [spec_plCells.l1, if_pos h1, if_pos h2, at_row l i j hi, if_pos h6, wrap64_nat_succ (show j < 9223372036854775807 by omega)]
    have h7 := ih (j + 1) (by omega) (by omega)
    rw [cellsRow_snoc] at h7
    by_cases hp : at_ l i j > 0
    · rw [if_pos hp, ← List.append_assoc] at h7
      simp only [if_pos hp]
      exact h7
    · rw [if_neg hp, List.append_nil] at h7
      simp only [if_neg hp]
      exact h7
theorem cells_l0 (l : List (List Int)) (hl : l.length ≤ 8) (hr : ∀ r ∈ l, r.length = l.length) : ∀ d (i : Nat), i ≤ l.length → l.length - i = d → Ev (fun k => spec_plCells.l0 k (cellsOf l (List.range i)) l (l.length : Int) (i : Int)) (cellsOf l (List.range l.length)) := by
  intro d
  induction d with
  | zero =>
    intro i hi hd
    have : i = l.length := by omega
    subst this
    refine ev_succ ?_
    simp only [spec_plCells.l0, if_neg (Int.lt_irrefl _)]
    exact ev_now _ _ rfl
  | succ d ih =>
    intro i hi hd
    have hlt : i < l.length := by omega
    have h1 : (i : Int) < (l.length : Int) := by omega
    have h2 : (0 : Int) ≤ (i : Int) := by omega
    refine ev_succ ?_
    simp only [spec_plCells.l0, if_pos h1, if_pos h2, rdL_nat l i hlt]
    have := cells_l1 l hl hr i hlt _ (ih (i + 1) (by omega) (by omega)) l.length 0 (by omega) (by omega)
    simpa [cellsRow] using this
theorem plCells_ev (l : List (List Int)) (hl : l.length ≤ 8) (hr : ∀ r ∈ l, r.length = l.length) : Ev (fun k => spec_plCells.f k l) (cellsOf l (List.range l.length)) := by
  unfold spec_plCells.f
  have := cells_l0 l hl hr l.length 0 (by omega) (by omega)
  simpa [cellsOf] using this
theorem rdT_nat (l : List S70) (i : Nat) (h : i < l.length) : rd_T70 l (i : Int) = l[i] := by unfold rd_T70; simp [h]
/-- The answer of the inner search: the first cell below and to the left. -/
def specY (cs : List S70) (a b : Int) : Option S70 := cs.findSome? fun y => if a < y.f0 then (if b > y.f1 then some y else none) else none
def specX (cs xs : List S70) : Option (S70 × S70) := xs.findSome? fun x => (specY cs x.f0 x.f1).map fun y => (x, y)
theorem spec_l1 (cs : List S70) (hc : cs.length ≤ 1048576) (i : Nat) (hi : i < cs.length) (a b : Int) (o q : List S70 × Bool) (hnext : Ev (fun k => spec_plCrossing.l0 k cs cs (cs.length : Int) ((i + 1 : Nat) : Int)) o)
    (hq : q = match specY cs a b with | some y => ([mkC a b, y], true) | none => o) : ∀ d (j : Nat), j ≤ cs.length → cs.length - j = d → specY cs a b = specY (cs.drop j) a b →
    Ev (fun k => spec_plCrossing.l1 k cs cs (cs.length : Int) (i : Int) cs (cs.length : Int) (j : Int) a b) q := by
  intro d
  induction d with
  | zero =>
    intro j hj hd he
    have : j = cs.length := by omega
    subst this
    rw [List.drop_length] at he
    rw [he] at hq
    subst hq
    refine ev_succ ?_
    simp only [spec_plCrossing.l1, if_neg (Int.lt_irrefl _), wrap64_nat_succ (show i < 9223372036854775807 by omega)]
    exact hnext
  | succ d ih =>
    intro j hj hd he
    have hlt : j < cs.length := by omega
    have h1 : (j : Int) < (cs.length : Int) := by omega
    have h2 : (0 : Int) ≤ (j : Int) := by omega
    rw [List.drop_eq_getElem_cons hlt] at he
    unfold specY at he
    rw [List.findSome?_cons] at he
    refine ev_succ ?_
    simp only [spec_plCrossing.l1, if_pos h1, if_pos h2, rdT_nat cs j hlt, wrap64_nat_succ (show j < 9223372036854775807 by omega)]
    by_cases h3 : a < cs[j].f0
    · by_cases h4 : b > cs[j].f1
      · simp only [if_pos h3, if_pos h4] at he ⊢
        have : specY cs a b = some cs[j] := he
        rw [this] at hq
        exact ev_now _ _ hq.symm
      · simp only [if_pos h3, if_neg h4] at he ⊢
        exact ih (j + 1) (by omega) (by omega) he
    · simp only [if_neg h3] at he ⊢
      exact ih (j + 1) (by omega) (by omega) he
theorem spec_l0 (cs : List S70) (hc : cs.length ≤ 1048576) : ∀ d (i : Nat), i ≤ cs.length → cs.length - i = d →
    Ev (fun k => spec_plCrossing.l0 k cs cs (cs.length : Int) (i : Int)) (match specX cs (cs.drop i) with | some (x, y) => ([x, y], true) | none => ([], false)) := by
  intro d
  induction d with
  | zero =>
    intro i hi hd
    have : i = cs.length := by omega
    subst this
    refine ev_succ ?_
    simp only [spec_plCrossing.l0, if_neg (Int.lt_irrefl _), List.drop_length]
    exact ev_now _ _ rfl
  | succ d ih =>
    intro i hi hd
    have hlt : i < cs.length := by omega
    have h1 : (i : Int) < (cs.length : Int) := by omega
    have h2 : (0 : Int) ≤ (i : Int) := by omega
    refine ev_succ ?_
    simp only [spec_plCrossing.l0, if_pos h1, if_pos h2, rdT_nat cs i hlt]
    refine spec_l1 cs hc i hlt _ _ _ _ (ih (i + 1) (by omega) (by omega)) ?_ _ 0 (by omega) rfl rfl
    rw [List.drop_eq_getElem_cons hlt]
    unfold specX
    rw [List.findSome?_cons]
    cases specY cs cs[i].f0 cs[i].f1 with
    | none => rfl
    | some y => rfl
theorem findSome_filter_map {β γ : Type} (p : Nat → Bool) (g : Nat → β) (f : β → Option γ) : ∀ js : List Nat, ((js.filter p).map g).findSome? f = js.findSome? fun j => if p j then f (g j) else none
  | [] => rfl
  | j :: t => by
    rw [List.filter_cons, List.findSome?_cons]
    cases h : p j with
    | true => simp only [if_true, List.map_cons, List.findSome?_cons, findSome_filter_map p g f t]
    | false => simp [findSome_filter_map p g f t]
theorem findSome_flatMap {α β γ : Type} (g : α → List β) (f : β → Option γ) : ∀ l : List α, (l.flatMap g).findSome? f = l.findSome? fun a => (g a).findSome? f
  | [] => rfl
  | a :: t => by
    rw [List.flatMap_cons, List.findSome?_append, List.findSome?_cons, findSome_flatMap g f t]
    cases (g a).findSome? f <;> rfl
theorem specY_cross (l : List (List Int)) (i j : Nat) (hi : i < l.length) (hj : j < l.length) : specY (cellsOf l (List.range l.length)) (i : Int) (j : Int) = (crossY l i j).map fun x => mkC x.2.2.1 x.2.2.2 := by
  unfold specY cellsOf
  rw [findSome_flatMap]
  have hrow : ∀ r : Nat, (cellsRow l r (List.range l.length)).findSome? (fun y => if (i : Int) < y.f0 then (if (j : Int) > y.f1 then some y else none) else none) = if i < r then (rowFrom (fun c => if at_ l r c > 0 then some ((i : Int), (j : Int), (r : Int), (c : Int)) else none) j 0).map fun x => mkC x.2.2.1 x.2.2.2 else none := by
    intro r
    unfold cellsRow
    rw [findSome_filter_map]
    by_cases hir : i < r
    · rw [if_pos hir]
      have e1 : (fun (c : Nat) => if decide (at_ l r c > 0) = true then (if (i : Int) < (mkC (r : Int) (c : Int)).f0 then (if (j : Int) > (mkC (r : Int) (c : Int)).f1 then some (mkC (r : Int) (c : Int)) else none) else none) else none) = fun c => if c < j then (if at_ l r c > 0 then some (mkC (r : Int) (c : Int)) else none) else none := by
        funext c
        have : (i : Int) < (mkC (r : Int) (c : Int)).f0 := by show (i : Int) < (r : Int); omega
        rw [if_pos this]
        by_cases hc : c < j
        · have : (j : Int) > (mkC (r : Int) (c : Int)).f1 := by show (j : Int) > (c : Int); omega
          rw [if_pos this, if_pos hc]
          by_cases hp : at_ l r c > 0 <;> simp [hp]
        · have : ¬ (j : Int) > (mkC (r : Int) (c : Int)).f1 := by show ¬ (j : Int) > (c : Int); omega
          rw [if_neg this, if_neg hc]
          split <;> rfl
      rw [e1]
      have e2 : (List.range l.length).findSome? (fun c => if c < j then (if at_ l r c > 0 then some (mkC (r : Int) (c : Int)) else none) else none) = rowFrom (fun c => if c < j then (if at_ l r c > 0 then some (mkC (r : Int) (c : Int)) else none) else none) l.length 0 := by unfold rowFrom; rw [List.drop_zero]
      rw [e2, rowFrom_cut _ l.length j (by omega) (fun q h1 _ => if_neg (by omega)) j 0 (by omega) (by omega)]
      rw [rowFrom_congr _ (fun c => if at_ l r c > 0 then some (mkC (r : Int) (c : Int)) else none) j 0 (fun q hq => if_pos hq)]
      unfold rowFrom
      rw [List.drop_zero, List.map_findSome?]
      congr 1
      funext c
      by_cases hp : at_ l r c > 0 <;> simp [hp]
    · rw [if_neg hir]
      rw [List.findSome?_eq_none_iff]
      intro c _
      have : ¬ (i : Int) < (mkC (r : Int) (c : Int)).f0 := by show ¬ (i : Int) < (r : Int); omega
      rw [if_neg this]
      split <;> rfl
  have e3 : (List.range l.length).findSome? (fun r => (cellsRow l r (List.range l.length)).findSome? (fun y => if (i : Int) < y.f0 then (if (j : Int) > y.f1 then some y else none) else none)) = rowFrom (fun r => if i < r then (rowFrom (fun c => if at_ l r c > 0 then some ((i : Int), (j : Int), (r : Int), (c : Int)) else none) j 0).map fun x => mkC x.2.2.1 x.2.2.2 else none) l.length 0 := by
    unfold rowFrom
    rw [List.drop_zero]
    congr 1
    funext r
    exact hrow r
  rw [e3, rowFrom_skip _ l.length (i + 1) (by omega) (fun q hq => if_neg (by omega)) _ 0 rfl (by omega)]
  unfold crossY
  rw [show rowFrom (fun r => if i < r then (rowFrom (fun c => if at_ l r c > 0 then some ((i : Int), (j : Int), (r : Int), (c : Int)) else none) j 0).map (fun x => mkC x.2.2.1 x.2.2.2) else none) l.length (i + 1) = rowFrom (fun r => (rowFrom (fun c => if at_ l r c > 0 then some ((i : Int), (j : Int), (r : Int), (c : Int)) else none) j 0).map (fun x => mkC x.2.2.1 x.2.2.2)) l.length (i + 1) from ?_]
  · conv => rhs; unfold rowFrom
    rw [List.map_findSome?]
    rfl
  · unfold rowFrom
    have : ∀ q ∈ (List.range l.length).drop (i + 1), i < q := by
      intro q hq
      obtain ⟨n, hn, rfl⟩ := List.getElem_of_mem hq
      rw [List.getElem_drop, List.getElem_range]
      omega
    generalize (List.range l.length).drop (i + 1) = L at this
    induction L with
    | nil => rfl
    | cons a t ih =>
      rw [List.findSome?_cons, List.findSome?_cons, if_pos (this a (List.mem_cons_self ..)), ih (fun q hq => this q (List.mem_cons_of_mem _ hq))]
theorem crossY_at (l : List (List Int)) (i j : Nat) (x : Int × Int × Int × Int) (h : crossY l i j = some x) : x.1 = (i : Int) ∧ x.2.1 = (j : Int) := by
  unfold crossY rowFrom at h
  obtain ⟨r, _, hr⟩ := List.exists_of_findSome?_eq_some h
  obtain ⟨c, _, hc⟩ := List.exists_of_findSome?_eq_some hr
  split at hc
  · injection hc with hc; subst hc; exact ⟨rfl, rfl⟩
  · cases hc
theorem specX_cross (l : List (List Int)) (hz : ∀ i j, i < l.length → j < l.length → 0 ≤ at_ l i j) : specX (cellsOf l (List.range l.length)) (cellsOf l (List.range l.length)) = (crossOf l).map fun x => (mkC x.1 x.2.1, mkC x.2.2.1 x.2.2.2) := by
  conv => lhs; unfold specX; rhs; unfold cellsOf
  rw [findSome_flatMap]
  unfold crossOf
  rw [show rowFrom (fun i => crossX l i) l.length 0 = (List.range l.length).findSome? (fun i => crossX l i) from by unfold rowFrom; rw [List.drop_zero], List.map_findSome?]
  have key : ∀ i ∈ List.range l.length, (cellsRow l i (List.range l.length)).findSome? (fun x => (specY (cellsOf l (List.range l.length)) x.f0 x.f1).map fun y => (x, y)) = ((fun o => Option.map (fun x : Int × Int × Int × Int => (mkC x.1 x.2.1, mkC x.2.2.1 x.2.2.2)) o) ∘ fun i => crossX l i) i := by
    intro i hi
    have hi' := List.mem_range.1 hi
    show _ = Option.map _ (crossX l i)
    unfold crossX cellsRow
    rw [findSome_filter_map]
    unfold rowFrom
    rw [List.drop_zero, List.map_findSome?]
    have key2 : ∀ L : List Nat, (∀ j ∈ L, j < l.length) → (L.findSome? fun j => if decide (at_ l i j > 0) = true then Option.map (fun y => (mkC (i : Int) (j : Int), y)) (specY (cellsOf l (List.range l.length)) (mkC (i : Int) (j : Int)).f0 (mkC (i : Int) (j : Int)).f1) else none) = L.findSome? ((fun o => Option.map (fun x : Int × Int × Int × Int => (mkC x.1 x.2.1, mkC x.2.2.1 x.2.2.2)) o) ∘ fun j => if at_ l i j = 0 then none else crossY l i j) := by
      intro L hL
      induction L with
      | nil => rfl
      | cons j t ih =>
        rw [List.findSome?_cons, List.findSome?_cons, ih (fun q hq => hL q (List.mem_cons_of_mem _ hq))]
        have hj := hL j (List.mem_cons_self ..)
        have h0 := hz i j hi' hj
        congr 1
        show (if decide (at_ l i j > 0) = true then _ else none) = Option.map _ (if at_ l i j = 0 then none else crossY l i j)
        by_cases hp : at_ l i j = 0
        · rw [if_pos hp, if_neg (by simp [hp])]; rfl
        · rw [if_neg hp, if_pos (by simp; omega)]
          show Option.map _ (specY (cellsOf l (List.range l.length)) (i : Int) (j : Int)) = _
          rw [specY_cross l i j hi' hj]
          cases hy : crossY l i j with
          | none => rfl
          | some x =>
            obtain ⟨h1, h2⟩ := crossY_at l i j x hy
            simp only [Option.map_some]
            rw [h1, h2]
    exact key2 _ (fun j hj => List.mem_range.1 hj)
  have key3 : ∀ L : List Nat, (∀ i ∈ L, i ∈ List.range l.length) → (L.findSome? fun a => (cellsRow l a (List.range l.length)).findSome? (fun x => (specY (cellsOf l (List.range l.length)) x.f0 x.f1).map fun y => (x, y))) = L.findSome? ((fun o => Option.map (fun x : Int × Int × Int × Int => (mkC x.1 x.2.1, mkC x.2.2.1 x.2.2.2)) o) ∘ fun i => crossX l i) := by
    intro L hL
    induction L with
    | nil => rfl
    | cons a t ih => rw [List.findSome?_cons, List.findSome?_cons, ih (fun q hq => hL q (List.mem_cons_of_mem _ hq)), key a (hL a (List.mem_cons_self ..))]
  exact key3 _ (fun _ h => h)
/-- What both programs answer. -/
def crossA (l : List (List Int)) : List S70 × Bool := match crossOf l with | some x => ([mkC x.1 x.2.1, mkC x.2.2.1 x.2.2.2], true) | none => ([], false)
theorem planAt (l : List (List Int)) (h : planB l = true) (i j : Nat) (hi : i < l.length) (hj : j < l.length) : 0 ≤ at_ l i j ∧ at_ l i j ≤ 60 := by
  obtain ⟨_, _, h3⟩ := (planB_iff l).1 h
  have hr := (h3 l[i] (List.getElem_mem hi))
  have hj' : j < l[i].length := by rw [hr.1]; exact hj
  have : at_ l i j = l[i][j] := by simp [at_, hi, hj']
  rw [this]
  exact hr.2 _ (List.getElem_mem _)
theorem specCrossing_ev (l : List (List Int)) (h : planB l = true) : Ev (fun k => spec_plCrossing.f k l) (crossA l) := by
  obtain ⟨h1, h2, h3⟩ := (planB_iff l).1 h
  have hr : ∀ r ∈ l, r.length = l.length := fun r hr => (h3 r hr).1
  unfold spec_plCrossing.f
  refine Ev.bind (plCells_ev l h2 hr) ?_
  have hc := cellsOf_length l l.length
  have h5 : l.length * l.length ≤ 8 * 8 := Nat.mul_le_mul h2 h2
  have := spec_l0 (cellsOf l (List.range l.length)) (by omega) _ 0 (by omega) rfl
  rw [List.drop_zero, specX_cross l (fun i j hi hj => (planAt l h i j hi hj).1)] at this
  unfold crossA
  cases hx : crossOf l with
  | none => rw [hx] at this; simpa using this
  | some x => rw [hx] at this; simpa using this
theorem specCrossingOf_ev (l : List (List Int)) : Ev (fun k => spec_CrossingOf.f k l) (if planB l = true then crossA l else ([], false)) := by
  unfold spec_CrossingOf.f
  refine Ev.bind (plGood_ev l) ?_
  cases h : planB l with
  | false => exact ev_now _ _ rfl
  | true =>
    simp only [if_true]
    exact Ev.bind (specCrossing_ev l h) (ev_now _ _ rfl)
theorem implCrossingOf_ev (l : List (List Int)) : Ev (fun k => impl_CrossingOf.f k l) (if planB l = true then crossA l else ([], false)) := by
  unfold impl_CrossingOf.f
  rw [isPlan_f]
  simp only [Option.bind_some]
  cases h : planB l with
  | false => exact ev_now _ _ rfl
  | true =>
    obtain ⟨h1, h2, h3⟩ := (planB_iff l).1 h
    simp only [if_true]
    refine Ev.bind (crossing_ev l h2 (fun r hr => (h3 r hr).1)) ?_
    unfold crossA
    cases crossOf l with
    | none => exact ev_now _ _ rfl
    | some x => exact ev_now _ _ rfl
end Go.Proofs.Ytllnieknogficaa.K
namespace Go.Proofs.Ytllnieknogficaa.K
open Go.RowKit Go.Proofs.YtllnieknogficaaW.PrintWords Go.Proofs.YtllnieknogficaaW.PrintLast Go.Proofs.YtllnieknogficaaW.PrintMore
attribute [local go_sem] max2_int min2_int max_two min_two max_three min_three max_four min_four   -- for this text's walks alone
set_option linter.unusedVariables false
set_option linter.unusedSimpArgs false

/-! ### impl_cost: function 119 -/
mutual
def impl_cost.l0 : Nat → Int → List (List Int) → Int → Int → Option (Int)
  | 0, _, _, _, _ => none
  | k + 1, x3, x8, x9, x10 => if x10 < x9 then (if 0 ≤ x10 then (if x10 < (x8.length : Int) then (impl_cost.l1 k x3 x10 x8 x9 x10 (rd_L2 x8 x10) ((rd_L2 x8 x10).length : Int) 0) else (none)) else (none)) else (some x3)
def impl_cost.l1 : Nat → Int → Int → List (List Int) → Int → Int → List Int → Int → Int → Option (Int)
  | 0, _, _, _, _, _, _, _, _ => none
  | k + 1, x3, x4, x8, x9, x10, x15, x16, x17 => if x17 < x16 then (if 0 ≤ x17 then (if x17 < (x15.length : Int) then (impl_cost.l1 k (wrap64 (x3 + (wrap64 ((rd x15 x17) * (mx (wrap64 (x4 - x17)) (wrap64 (x17 - x4))))))) x4 x8 x9 x10 x15 x16 (wrap64 (x17 + 1))) else (none)) else (none)) else (impl_cost.l0 k x3 x8 x9 (wrap64 (x10 + 1)))
end
def impl_cost.f (k : Nat) (l0 : List (List Int)) : Option (Int) := impl_cost.l0 k 0 l0 (l0.length : Int) 0
theorem impl_cost.mono_l : ∀ k, (∀ y0 y1 y2 y3, LeO (impl_cost.l0 k y0 y1 y2 y3) (impl_cost.l0 (k + 1) y0 y1 y2 y3)) ∧ (∀ y0 y1 y2 y3 y4 y5 y6 y7, LeO (impl_cost.l1 k y0 y1 y2 y3 y4 y5 y6 y7) (impl_cost.l1 (k + 1) y0 y1 y2 y3 y4 y5 y6 y7))
  | 0 => ⟨fun _ _ _ _ r h => by simp [impl_cost.l0] at h, fun _ _ _ _ _ _ _ _ r h => by simp [impl_cost.l1] at h⟩
  | k + 1 => by
    obtain ⟨ih0, ih1⟩ := impl_cost.mono_l k
    refine ⟨?_, ?_⟩
    · intro y0 y1 y2 y3
      unfold impl_cost.l0
      repeat' first
      | (with_reducible exact ih0 _ _ _ _)
      | (with_reducible exact ih1 _ _ _ _ _ _ _ _)
      | (with_reducible exact LeO.refl _)
      | (with_reducible exact LeO.none _)
      | (with_reducible refine LeO.ite ?_ ?_)
      | (with_reducible refine LeO.bind ?_ (fun _ => ?_))
      | exact ih0 _ _ _ _
      | exact ih1 _ _ _ _ _ _ _ _
      | exact LeO.none _
      | refine LeO.ite ?_ ?_
      | refine LeO.bind ?_ (fun _ => ?_)
    · intro y0 y1 y2 y3 y4 y5 y6 y7
      unfold impl_cost.l1
      repeat' first
      | (with_reducible exact ih0 _ _ _ _)
      | (with_reducible exact ih1 _ _ _ _ _ _ _ _)
      | (with_reducible exact LeO.refl _)
      | (with_reducible exact LeO.none _)
      | (with_reducible refine LeO.ite ?_ ?_)
      | (with_reducible refine LeO.bind ?_ (fun _ => ?_))
      | exact ih0 _ _ _ _
      | exact ih1 _ _ _ _ _ _ _ _
      | exact LeO.none _
      | refine LeO.ite ?_ ?_
      | refine LeO.bind ?_ (fun _ => ?_)
theorem impl_cost.mono : ∀ a0 k, LeO (impl_cost.f k a0) (impl_cost.f (k + 1) a0) := by
  intro a0 k
  obtain ⟨ih0, ih1⟩ := impl_cost.mono_l k
  unfold impl_cost.f
  repeat' first
      | (with_reducible exact ih0 _ _ _ _)
      | (with_reducible exact ih1 _ _ _ _ _ _ _ _)
      | (with_reducible exact LeO.refl _)
      | (with_reducible exact LeO.none _)
      | (with_reducible refine LeO.ite ?_ ?_)
      | (with_reducible refine LeO.bind ?_ (fun _ => ?_))
      | exact ih0 _ _ _ _
      | exact ih1 _ _ _ _ _ _ _ _
      | exact LeO.none _
      | refine LeO.ite ?_ ?_
      | refine LeO.bind ?_ (fun _ => ?_)
set_option maxHeartbeats 8000000 in
set_option maxRecDepth 100000 in
theorem impl_cost.calls (k : Nat) (A0 : Option Addr) (c0 : Nat) (l0 : List (List Int)) (r : Int) (w : World) (hr0 : Kd.C (Kd.slice 3 (Kd.int .i64)) w A0 l0.length l0) (hc0 : l0.length ≤ c0) (h : impl_cost.f k l0 = some r) :
    Calls Try.prog 119 #[.slice A0 l0.length c0] w fun e w' => e = .returned (.int .i64 r) ∧ Below w.heap.size w w' := by
  have HR0 := Aside0.mk hr0
  have HC0 := Aside0.mk hc0
  clear hr0 hc0
  have HB := Aside0.mk (Below.refl w.heap.size w)
  have H : (impl_cost.l0 k 0 l0 (l0.length : Int) 0) = some r := h
  clear h
  have H' := Aside0.mk H
  clear H
  go_enter Try.func119, Try.ntmps119
  go_wp2
  go_loopg [3, 10] k (fun kq v3 v10 w' => ∃ (x3_1 : Int) (x10_1 : Int), v3 = .int .i64 x3_1 ∧ v10 = .int .i64 x10_1 ∧ Aside0 (impl_cost.l0 kq x3_1 l0 (l0.length : Int) x10_1 = some r) ∧ Aside0 (kq ≤ k) ∧ Aside0 (Below w.heap.size w w'))
  case atStart => exact ⟨(0), (0), (by first | rfl | (simp; done) | (simp [*]; done)), (by first | rfl | (simp; done) | (simp [*]; done)), H', ⟨Nat.le_refl _⟩, ⟨by repeat (first | (with_reducible first | exact HB.out | apply below_alloc | apply pw_below_drewN | apply below_drew1) | exact HB.out)⟩⟩
  case round =>
    clear H'
    try clear c1
    obtain ⟨x3_1, x10_1, rfl, rfl, HA, HK1, HB⟩ := hrel
    cases gk with
    | zero => exact absurd HA.out (by simp [impl_cost.l0])
    | succ k1 =>
      have H := HA.out
      clear HA
      simp only [impl_cost.l0] at H
      by_cases c2 : x10_1 < (l0.length : Int)
      · rw [if_pos c2] at H
        have c2b0 : decide (x10_1 < (l0.length : Int)) = true := decide_eq_true c2
        clear c2
        by_cases c3 : 0 ≤ x10_1
        · rw [if_pos c3] at H
          have c3b0 : decide (0 ≤ x10_1) = true := decide_eq_true c3
          clear c3
          by_cases c4 : x10_1 < (l0.length : Int)
          · rw [if_pos c4] at H
            have c4b0 : decide (x10_1 < (l0.length : Int)) = true := decide_eq_true c4
            clear c4
            have H' := Aside0.mk H
            clear H
            have p341 : 0 ≤ (x10_1 : Int) := of_decide_eq_true (by first | (with_reducible assumption) | assumption)
            have q341 : x10_1 < (l0.length : Int) := of_decide_eq_true (by first | (with_reducible assumption) | assumption)
            obtain ⟨ad341, A341_0, c341_0, e341, hx341_0, hl341_0, hi341_0⟩ := at_L2 HR0.out x10_1 p341 q341
            cases e341
            replace hx341_0 := (HB.out.cell (World.block_lt_of_cell? w _ hx341_0)).trans hx341_0
            have HR341_0 := Aside0.mk hi341_0
            have HC341_0 := Aside0.mk hl341_0
            clear hi341_0 hl341_0
            replace p341 := eq_true p341
            replace q341 := eq_true q341
            go_wp2
            go_loopg [3, 17] k1 (fun kq v3 v17 w' => ∃ (x3_2 : Int) (x17_2 : Int), v3 = .int .i64 x3_2 ∧ v17 = .int .i64 x17_2 ∧ Aside0 (impl_cost.l1 kq x3_2 x10_1 l0 (l0.length : Int) x10_1 (rd_L2 l0 x10_1) ((rd_L2 l0 x10_1).length : Int) x17_2 = some r) ∧ Aside0 (kq ≤ k1) ∧ Aside0 (Below w.heap.size w w'))
            case atStart => exact ⟨(x3_1), (0), (by first | rfl | (simp; done) | (simp [*]; done)), (by first | rfl | (simp; done) | (simp [*]; done)), H', ⟨Nat.le_refl _⟩, ⟨by repeat (first | (with_reducible first | exact HB.out | apply below_alloc | apply pw_below_drewN | apply below_drew1) | exact HB.out)⟩⟩
            case round =>
              clear H'
              try clear c1
              try clear c2
              try clear c2b0
              try clear p2
              try clear c3
              try clear c3b0
              try clear p3
              try clear q3
              try clear hx3
              try clear c4
              try clear c4b0
              try clear hx341_0
              try clear p341
              try clear q341
              obtain ⟨x3_2, x17_2, rfl, rfl, HA, HK2, HB⟩ := hrel
              cases gk with
              | zero => exact absurd HA.out (by simp [impl_cost.l1])
              | succ k2 =>
                have H := HA.out
                clear HA
                simp only [impl_cost.l1] at H
                by_cases c5 : x17_2 < ((rd_L2 l0 x10_1).length : Int)
                · rw [if_pos c5] at H
                  have c5b0 : decide (x17_2 < ((rd_L2 l0 x10_1).length : Int)) = true := decide_eq_true c5
                  clear c5
                  by_cases c6 : 0 ≤ x17_2
                  · rw [if_pos c6] at H
                    have c6b0 : decide (0 ≤ x17_2) = true := decide_eq_true c6
                    clear c6
                    by_cases c7 : x17_2 < ((rd_L2 l0 x10_1).length : Int)
                    · rw [if_pos c7] at H
                      have c7b0 : decide (x17_2 < ((rd_L2 l0 x10_1).length : Int)) = true := decide_eq_true c7
                      clear c7
                      obtain ⟨ji8, hji8⟩ : ∃ j_ : Int, (mx (wrap64 (x10_1 - x17_2)) (wrap64 (x17_2 - x10_1))) = j_ := ⟨_, rfl⟩
                      replace H : (impl_cost.l1 k2 (wrap64 (x3_2 + (wrap64 ((rd (rd_L2 l0 x10_1) x17_2) * (ji8))))) x10_1 l0 (l0.length : Int) x10_1 (rd_L2 l0 x10_1) ((rd_L2 l0 x10_1).length : Int) (wrap64 (x17_2 + 1))) = some r := by first | (rw [hji8] at H; exact H) | (simp only [hji8] at H ⊢; exact H)
                      have hji8_ : (if (wrap64 (x10_1 - x17_2)) < (wrap64 (x17_2 - x10_1)) then (wrap64 (x17_2 - x10_1)) else (wrap64 (x10_1 - x17_2))) = ji8 := hji8
                      have H' := Aside0.mk H
                      clear H
                      have p342 : 0 ≤ (x17_2 : Int) := of_decide_eq_true (by first | (with_reducible assumption) | assumption)
                      have q342 : x17_2 < ((rd_L2 l0 x10_1).length : Int) := of_decide_eq_true (by first | (with_reducible assumption) | assumption)
                      obtain ⟨ad342, e342, hx342_0⟩ := Kd.at_int HR341_0.out x17_2 p342 q342
                      cases e342
                      replace hx342_0 := (HB.out.cell (World.block_lt_of_cell? w _ hx342_0)).trans hx342_0
                      replace p342 := eq_true p342
                      replace q342 := eq_true q342
                      go_wp2
                      go_roundg k2
                      case measure => have := HK1.out; have := HK2.out; omega
                      case rel => exact ⟨(wrap64 (x3_2 + (wrap64 ((rd (rd_L2 l0 x10_1) x17_2) * (ji8))))), (wrap64 (x17_2 + 1)), (by first | rfl | (simp; done) | (simp only [← hji8] <;> (first | rfl | simp)) | (simp [*]; done)), (by first | rfl | (simp; done) | (simp [*]; done)), H', ⟨by have := HK1.out; have := HK2.out; omega⟩, ⟨by repeat (first | (with_reducible first | exact HB.out | apply below_alloc | apply pw_below_drewN | apply below_drew1) | exact HB.out)⟩⟩
                    · rw [if_neg c7] at H
                      exact absurd H (by simp)
                  · rw [if_neg c6] at H
                    exact absurd H (by simp)
                · rw [if_neg c5] at H
                  have c5b0 : decide (x17_2 < ((rd_L2 l0 x10_1).length : Int)) = false := decide_eq_false c5
                  clear c5
                  have H' := Aside0.mk H
                  clear H
                  go_wp2
                  go_roundg k2
                  case measure => have := HK1.out; have := HK2.out; omega
                  case rel => exact ⟨(x3_2), (wrap64 (x10_1 + 1)), (by first | rfl | (simp; done) | (simp [*]; done)), (by first | rfl | (simp; done) | (simp [*]; done)), H', ⟨by have := HK1.out; have := HK2.out; omega⟩, ⟨by repeat (first | (with_reducible first | exact HB.out | apply below_alloc | apply pw_below_drewN | apply below_drew1) | exact HB.out)⟩⟩
          · rw [if_neg c4] at H
            exact absurd H (by simp)
        · rw [if_neg c3] at H
          exact absurd H (by simp)
      · rw [if_neg c2] at H
        have c2b0 : decide (x10_1 < (l0.length : Int)) = false := decide_eq_false c2
        clear c2
        obtain rfl := Option.some.inj H
        go_wp2
        go_ret
        exact ⟨by first | rfl | (simp [errW_none, errW_some] <;> rfl) | (simp [*, errW_none, errW_some] <;> rfl), by repeat (first | (with_reducible first | exact HB.out | apply below_alloc | apply pw_below_drewN | apply below_drew1) | exact HB.out)⟩

end Go.Proofs.Ytllnieknogficaa.K
namespace Go.Proofs.Ytllnieknogficaa.K
open Go.RowKit Go.Proofs.YtllnieknogficaaW.PrintWords Go.Proofs.YtllnieknogficaaW.PrintLast Go.Proofs.YtllnieknogficaaW.PrintMore
attribute [local go_sem] max2_int min2_int max_two min_two max_three min_three max_four min_four   -- for this text's walks alone
set_option linter.unusedVariables false
set_option linter.unusedSimpArgs false

/-! ### spec_l1Most: function 214 -/
def spec_l1Most.f (a0 : Int) (a1 : Int) : Option (Int) := if a0 > a1 then (some a0) else (some a1)
set_option maxHeartbeats 8000000 in
set_option maxRecDepth 100000 in
theorem spec_l1Most.calls (a0 : Int) (a1 : Int) (r : Int) (w : World) (h : spec_l1Most.f a0 a1 = some r) :
    Calls Try.prog 214 #[.int .i64 a0, .int .i64 a1] w fun e w' => e = .returned (.int .i64 r) ∧ Drawn0 w w' := by
  have H : (if a0 > a1 then (some a0) else (some a1)) = some r := h
  clear h
  by_cases c3 : a0 > a1
  · rw [if_pos c3] at H
    have c3b0 : decide (a1 < a0) = true := decide_eq_true c3
    clear c3
    obtain rfl := Option.some.inj H
    go_enter Try.func214, Try.ntmps214
    go_wp2
    go_ret
    exact ⟨by first | rfl | (simp; done) | (simp [*]; done), by repeat (first | exact Drawn0.refl _ | apply Drawn0.step)⟩
  · rw [if_neg c3] at H
    have c3b0 : decide (a1 < a0) = false := decide_eq_false c3
    clear c3
    obtain rfl := Option.some.inj H
    go_enter Try.func214, Try.ntmps214
    go_wp2
    go_ret
    exact ⟨by first | rfl | (simp; done) | (simp [*]; done), by repeat (first | exact Drawn0.refl _ | apply Drawn0.step)⟩

end Go.Proofs.Ytllnieknogficaa.K
