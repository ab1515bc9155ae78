/-
Part 1 of the proof of the law FnExactGiftTerms: what the Go functions that it reaches come to, each proved of the given program; no condition beside those that each theorem names.
-/
import Derived.Test.YtllnieknogficaaProg
import Derived.Below
import Derived.Deep.Draws
import Derived.Deep.AppendLies
import Derived.Maps.AppendAt
import Derived.OwnWalk
import Derived.Laws.BytesArg
import Derived.Laws.MakeOwn
import Derived.Laws.OwnMore
import Derived.Deep.OwnRows
import Derived.Tactics
import Derived.Lib.ConvBytes
import Derived.Laws.Slices
import Derived.WalkKit
import Derived.KernelRfl
import Derived.RowKit3
import Derived.Deep.LoopGhost
import Derived.Deep.QuietTactic
import Derived.BigQuiet
import Derived.WideLaws
import Derived.Deep.DeepCutAuto
import Derived.Deep.CutBlock
import Derived.Deep.RegionHeld3
import Derived.Laws.Rows
import Derived.Lib.AppendStr
import Derived.ArgAppend
import Derived.Laws.IdiomCopy
import Derived.OrdersHeld
import Derived.Laws.BitsLemmas
import Derived.RowKit
import Derived.Shelf.Abstract
import Derived.Test.YtllnieknogficaaWWords
import Derived.Test.YtllnieknogficaaWLast
import Derived.Test.YtllnieknogficaaWTab
import Derived.Test.YtllnieknogficaaWFour
import Derived.Test.YtllnieknogficaaWQPut
import Derived.Test.YtllnieknogficaaWApart
import Derived.Test.YtllnieknogficaaWArr
import Derived.Test.YtllnieknogficaaWZeros
import Derived.Test.YtllnieknogficaaWFoot
import Derived.Test.YtllnieknogficaaWKept
import Derived.Test.YtllnieknogficaaWShare
import Derived.Test.YtllnieknogficaaWN
import Derived.Test.YtllnieknogficaaWFootNe
import Derived.Test.YtllnieknogficaaWAt
import Derived.Test.YtllnieknogficaaWEqStruct
import Derived.Test.YtllnieknogficaaWRepsOne
import Derived.Test.YtllnieknogficaaWInv
import Derived.Test.YtllnieknogficaaWInvWords
import Derived.Test.YtllnieknogficaaWGuard
import Derived.Test.YtllnieknogficaaWNEv
import Derived.Test.YtllnieknogficaaWMore
import Derived.Laws.EntriesVeiled
import Derived.Lib.SliceRun
namespace Go.Proofs.Ytllnieknogficaa.K
open Go.RowKit Go.Proofs.YtllnieknogficaaW.PrintWords Go.Proofs.YtllnieknogficaaW.PrintLast Go.Proofs.YtllnieknogficaaW.PrintMore
attribute [local go_sem] max2_int min2_int max_two min_two max_three min_three max_four min_four   -- for this text's walks alone
set_option linter.unusedVariables false
set_option linter.unusedSimpArgs false



def errW : Option Int → Value
  | none => .nilIface
  | some c => .iface 0 (.int .i64 c)
theorem errW_none : errW none = .nilIface := rfl
theorem errW_some (c : Int) : errW (some c) = .iface 0 (.int .i64 c) := rfl

theorem info3 : (Try.prog.info? 3).map (fun i => (i.zero, i.size, i.bytes)) = some (some (.int .i64 0), 1, 8) := by kernel_rfl
theorem info24 : (Try.prog.info? 24).map (fun i => (i.zero, i.size, i.bytes)) = some (some (.slice none 0 0), 1, 24) := by kernel_rfl
theorem info70 : (Try.prog.info? 70).map (fun i => (i.zero, i.size, i.bytes)) = some (some (.agg #[(.int .i64 0), (.int .i64 0)]), 2, 16) := by kernel_rfl
-- the values' own types
def rd_L2 (xs : List (List Int)) (i : Int) : (List Int) := xs.getD i.toNat ([] : List Int)
theorem at_L2 {w : World} {A : Option Addr} {n : Nat} {xs : List (List Int)} (h : Kd.C (Kd.slice 3 (Kd.int .i64)) w A n xs) (i : Int) (h0 : 0 ≤ i) (h1 : i < n) : ∃ ad A0 c0, A = some ad ∧ w.cell? (ad.add i.toNat) = some (.slice A0 (rd_L2 xs i).length c0) ∧ (rd_L2 xs i).length ≤ c0 ∧ (Kd.int .i64).C w A0 (rd_L2 xs i).length (rd_L2 xs i) := by
  obtain ⟨ad, c, e, _, hK, hc0⟩ := Kd.C_get h ([] : List Int) i h0 h1
  have hc : ∀ j u, c[j]? = some u → w.cell? (ad.add (i.toNat * 1 + j)) = some u := hc0
  obtain ⟨A0, c0, rfl, l0, g0⟩ := hK
  exact ⟨ad, A0, c0, e, by have hq := hc 0 _ rfl; rwa [Nat.mul_one, Nat.add_zero] at hq, l0, g0⟩

def rd_L3 (xs : List (List (List Int))) (i : Int) : (List (List Int)) := xs.getD i.toNat ([] : List (List Int))
theorem at_L3 {w : World} {A : Option Addr} {n : Nat} {xs : List (List (List Int))} (h : Kd.C (Kd.slice 24 (Kd.slice 3 (Kd.int .i64))) w A n xs) (i : Int) (h0 : 0 ≤ i) (h1 : i < n) : ∃ ad A0 c0, A = some ad ∧ w.cell? (ad.add i.toNat) = some (.slice A0 (rd_L3 xs i).length c0) ∧ (rd_L3 xs i).length ≤ c0 ∧ (Kd.slice 3 (Kd.int .i64)).C w A0 (rd_L3 xs i).length (rd_L3 xs i) := by
  obtain ⟨ad, c, e, _, hK, hc0⟩ := Kd.C_get h ([] : List (List Int)) i h0 h1
  have hc : ∀ j u, c[j]? = some u → w.cell? (ad.add (i.toNat * 1 + j)) = some u := hc0
  obtain ⟨A0, c0, rfl, l0, g0⟩ := hK
  exact ⟨ad, A0, c0, e, by have hq := hc 0 _ rfl; rwa [Nat.mul_one, Nat.add_zero] at hq, l0, g0⟩

/-! #### struct type 52 -/
structure S52 where
  f0 : Int
  f1 : Int
  f2 : Int
def z52 : S52 := ⟨(0 : Int), (0 : Int), (0 : Int)⟩
def k52 : Kd S52 := Kd.iso (Kd.pair (Kd.int .i64) (Kd.pair (Kd.int .i64) (Kd.int .i64))) (fun x : S52 => (x.f0, x.f1, x.f2))
theorem k52_open {w : World} {x : S52} {cs : List Value} (h : k52.K w x cs) : cs = [.int .i64 x.f0, .int .i64 x.f1, .int .i64 x.f2] := by
  obtain ⟨_, _, rfl, rfl, ⟨_, _, rfl, rfl, rfl⟩⟩ := h
  exact rfl
theorem k52_openM {w : World} {base : Nat} {ok : Nat → Prop} {x : S52} {cs : List Value} (h : k52.M w base ok x cs) : cs = [.int .i64 x.f0, .int .i64 x.f1, .int .i64 x.f2] := by
  obtain ⟨_, _, rfl, rfl, ⟨_, _, rfl, rfl, rfl⟩⟩ := h
  exact rfl
theorem k52_mk (w : World) (x : S52)  : k52.K w x [.int .i64 x.f0, .int .i64 x.f1, .int .i64 x.f2] := ⟨[.int .i64 x.f0], [.int .i64 x.f1, .int .i64 x.f2], rfl, rfl, ⟨[.int .i64 x.f1], [.int .i64 x.f2], rfl, rfl, rfl⟩⟩
theorem k52_mkM (w : World) (base : Nat) (ok : Nat → Prop) (x : S52)  : k52.M w base ok x [.int .i64 x.f0, .int .i64 x.f1, .int .i64 x.f2] := ⟨[.int .i64 x.f0], [.int .i64 x.f1, .int .i64 x.f2], rfl, rfl, ⟨[.int .i64 x.f1], [.int .i64 x.f2], rfl, rfl, rfl⟩⟩
theorem k52_mkF (W : World) (ok : Nat → Prop) (x : S52) : Kd.FK k52 W ok x [.int .i64 x.f0, .int .i64 x.f1, .int .i64 x.f2] := fun W2 _ => k52_mk W2 x
def rd_T52 (xs : List S52) (i : Int) : S52 := xs.getD i.toNat z52
theorem at_T52 {w : World} {A : Option Addr} {n : Nat} {xs : List S52} (h : Kd.C k52 w A n xs) (i : Int) (h0 : 0 ≤ i) (h1 : i < n) : ∃ ad , A = some ad ∧ w.cell? (ad.add (i.toNat * 3)) = some (.int .i64 (rd_T52 xs i).f0) ∧ w.cell? ⟨(ad.add (i.toNat * 3)).block, (ad.add (i.toNat * 3)).off + 1, none⟩ = some (.int .i64 (rd_T52 xs i).f1) ∧ w.cell? ⟨(ad.add (i.toNat * 3)).block, (ad.add (i.toNat * 3)).off + 2, none⟩ = some (.int .i64 (rd_T52 xs i).f2) := by
  obtain ⟨ad, c, e, _, hK, hc0⟩ := Kd.C_get h z52 i h0 h1
  have hc : ∀ j u, c[j]? = some u → w.cell? (ad.add (i.toNat * 3 + j)) = some u := hc0
  obtain rfl := k52_open hK
  exact ⟨ad, e, hc 0 _ rfl, by rw [← add_field _ _ 1 (by omega)]; exact hc 1 _ rfl, by rw [← add_field _ _ 2 (by omega)]; exact hc 2 _ rfl⟩

/-! #### struct type 70 -/
structure S70 where
  f0 : Int
  f1 : Int
def z70 : S70 := ⟨(0 : Int), (0 : Int)⟩
def k70 : Kd S70 := Kd.iso (Kd.pair (Kd.int .i64) (Kd.int .i64)) (fun x : S70 => (x.f0, x.f1))
theorem k70_open {w : World} {x : S70} {cs : List Value} (h : k70.K w x cs) : cs = [.int .i64 x.f0, .int .i64 x.f1] := by
  obtain ⟨_, _, rfl, rfl, rfl⟩ := h
  exact rfl
theorem k70_openM {w : World} {base : Nat} {ok : Nat → Prop} {x : S70} {cs : List Value} (h : k70.M w base ok x cs) : cs = [.int .i64 x.f0, .int .i64 x.f1] := by
  obtain ⟨_, _, rfl, rfl, rfl⟩ := h
  exact rfl
theorem k70_mk (w : World) (x : S70)  : k70.K w x [.int .i64 x.f0, .int .i64 x.f1] := ⟨[.int .i64 x.f0], [.int .i64 x.f1], rfl, rfl, rfl⟩
theorem k70_mkM (w : World) (base : Nat) (ok : Nat → Prop) (x : S70)  : k70.M w base ok x [.int .i64 x.f0, .int .i64 x.f1] := ⟨[.int .i64 x.f0], [.int .i64 x.f1], rfl, rfl, rfl⟩
theorem k70_mkF (W : World) (ok : Nat → Prop) (x : S70) : Kd.FK k70 W ok x [.int .i64 x.f0, .int .i64 x.f1] := fun W2 _ => k70_mk W2 x
def rd_T70 (xs : List S70) (i : Int) : S70 := xs.getD i.toNat z70
theorem at_T70 {w : World} {A : Option Addr} {n : Nat} {xs : List S70} (h : Kd.C k70 w A n xs) (i : Int) (h0 : 0 ≤ i) (h1 : i < n) : ∃ ad , A = some ad ∧ w.cell? (ad.add (i.toNat * 2)) = some (.int .i64 (rd_T70 xs i).f0) ∧ w.cell? ⟨(ad.add (i.toNat * 2)).block, (ad.add (i.toNat * 2)).off + 1, none⟩ = some (.int .i64 (rd_T70 xs i).f1) := by
  obtain ⟨ad, c, e, _, hK, hc0⟩ := Kd.C_get h z70 i h0 h1
  have hc : ∀ j u, c[j]? = some u → w.cell? (ad.add (i.toNat * 2 + j)) = some u := hc0
  obtain rfl := k70_open hK
  exact ⟨ad, e, hc 0 _ rfl, by rw [← add_field _ _ 1 (by omega)]; exact hc 1 _ rfl⟩

end Go.Proofs.Ytllnieknogficaa.K
namespace Go.Proofs.Ytllnieknogficaa.K
open Go.RowKit Go.Proofs.YtllnieknogficaaW.PrintWords Go.Proofs.YtllnieknogficaaW.PrintLast Go.Proofs.YtllnieknogficaaW.PrintMore
attribute [local go_sem] max2_int min2_int max_two min_two max_three min_three max_four min_four   -- for this text's walks alone
set_option linter.unusedVariables false
set_option linter.unusedSimpArgs false
theorem ev_succ {α : Type} {g : Nat → Option α} {r : α} (h : Ev (fun k => g (k + 1)) r) : Ev g r := Ev.step (fun _ => rfl) h
theorem ev_some {α : Type} (g : Option α) {r : α} (h : g = some r) : Ev (fun _ => g) r := ⟨0, fun _ _ => h⟩
theorem ev_now {α : Type} (r r' : α) (h : r = r') : Ev (fun _ => some r) r' := ⟨0, fun _ _ => by rw [h]⟩
theorem wrap64_id {x : Int} (h0 : -9223372036854775808 ≤ x) (h1 : x ≤ 9223372036854775807) : wrap64 x = x := by unfold wrap64; omega
theorem wrap64_nat_succ {i : Nat} (h : i < 9223372036854775807) : wrap64 ((i : Int) + 1) = ((i + 1 : Nat) : Int) := by unfold wrap64; omega
theorem rd_nat (l : List Int) (i : Nat) (h : i < l.length) : rd l (i : Int) = l[i] := by unfold rd; simp [h]
theorem rdL_nat (l : List (List Int)) (i : Nat) (h : i < l.length) : rd_L2 l (i : Int) = l[i] := by unfold rd_L2; simp [h]
theorem rd_nat_getD (l : List Int) (i : Nat) : rd l (i : Int) = l.getD i 0 := by unfold rd; simp
theorem rdL_nat_getD (l : List (List Int)) (i : Nat) : rd_L2 l (i : Int) = l.getD i [] := by unfold rd_L2; simp
end Go.Proofs.Ytllnieknogficaa.K
namespace Go.Proofs.Ytllnieknogficaa.K
open Go.RowKit Go.Proofs.YtllnieknogficaaW.PrintWords Go.Proofs.YtllnieknogficaaW.PrintLast Go.Proofs.YtllnieknogficaaW.PrintMore
attribute [local go_sem] max2_int min2_int max_two min_two max_three min_three max_four min_four   -- for this text's walks alone
set_option linter.unusedVariables false
set_option linter.unusedSimpArgs false

/-! ### laws_markIntS: function 46 -/
def laws_markIntS.l0 : Nat → List Int → Int → Int → Option (Int × List Int)
  | 0, _, _, _ => none
  | k + 1, x0, x1, x5 => if x5 < (x0.length : Int) then (if 0 ≤ x5 then (laws_markIntS.l0 k (x0.set (x5 : Int).toNat x1) (wrap64 (x1 + 1)) (wrap64 (x5 + 1))) else (none)) else (some (x1, x0))
def laws_markIntS.f (k : Nat) (l0 : List Int) (a1 : Int) : Option (Int × List Int) := laws_markIntS.l0 k l0 a1 0
theorem laws_markIntS.mono_l : ∀ k, (∀ y0 y1 y2, LeO (laws_markIntS.l0 k y0 y1 y2) (laws_markIntS.l0 (k + 1) y0 y1 y2))
  | 0 => fun _ _ _ r h => by simp [laws_markIntS.l0] at h
  | k + 1 => by
    have ih0 := laws_markIntS.mono_l k
    · intro y0 y1 y2
      unfold laws_markIntS.l0
      repeat' first
      | (with_reducible exact ih0 _ _ _)
      | (with_reducible exact LeO.refl _)
      | (with_reducible exact LeO.none _)
      | (with_reducible refine LeO.ite ?_ ?_)
      | (with_reducible refine LeO.bind ?_ (fun _ => ?_))
      | exact ih0 _ _ _
      | exact LeO.none _
      | refine LeO.ite ?_ ?_
      | refine LeO.bind ?_ (fun _ => ?_)
theorem laws_markIntS.mono : ∀ a0 a1 k, LeO (laws_markIntS.f k a0 a1) (laws_markIntS.f (k + 1) a0 a1) := by
  intro a0 a1 k
  have ih0 := laws_markIntS.mono_l k
  unfold laws_markIntS.f
  repeat' first
      | (with_reducible exact ih0 _ _ _)
      | (with_reducible exact LeO.refl _)
      | (with_reducible exact LeO.none _)
      | (with_reducible refine LeO.ite ?_ ?_)
      | (with_reducible refine LeO.bind ?_ (fun _ => ?_))
      | exact ih0 _ _ _
      | exact LeO.none _
      | refine LeO.ite ?_ ?_
      | refine LeO.bind ?_ (fun _ => ?_)
set_option maxHeartbeats 8000000 in
set_option maxRecDepth 100000 in
theorem laws_markIntS.calls (k : Nat) (P0_ : Nat → Prop) (u9000_ : Value) (l0 : List Int) (a1 : Int) (r1 : Int) (r2 : List Int) (w0 w : World) (hB : Below w0.heap.size w0 w) (ho0 : Kd.R (Kd.int .i64) 3 w w0.heap.size P0_ u9000_ l0) (h : laws_markIntS.f k l0 a1 = some (r1, r2)) :
    Calls Try.prog 46 #[u9000_, .int .i64 a1] w fun e w' => e = .returned (.int .i64 r1) ∧ Kd.R (Kd.int .i64) 3 w' w0.heap.size (fun k_ => (P0_ k_ ∨ w.heap.size ≤ k_)) u9000_ r2 ∧ Below w0.heap.size w0 w' ∧ Kept w w' (fun k_ => P0_ k_) := by
  have HO0 := Aside0.mk (show Kd.R (Kd.int .i64) 3 w w0.heap.size (fun k_ => (P0_ k_ ∨ w.heap.size ≤ k_)) u9000_ l0 from Kd.R_mono ho0 (fun k_ hk => (.inl hk)))
  have HK := Aside0.mk (Kept.refl w (fun k_ => P0_ k_))
  have HW0 := Aside0.mk hB.size
  have HB := Aside0.mk hB
  clear hB
  have H : (laws_markIntS.l0 k l0 a1 0) = some (r1, r2) := h
  clear h
  have H' := Aside0.mk H
  clear H
  go_enter Try.func46, Try.ntmps46
  go_wp2
  go_loopg [1, 5] k (fun kq v1 v5 w' => ∃ (x0_1 : List Int) (x1_1 : Int) (x5_1 : Int), v1 = .int .i64 x1_1 ∧ v5 = .int .i64 x5_1 ∧ Aside0 (laws_markIntS.l0 kq x0_1 x1_1 x5_1 = some (r1, r2)) ∧ Aside0 (kq ≤ k) ∧ Aside0 (Kd.R (Kd.int .i64) 3 w' w0.heap.size (fun k_ => (P0_ k_ ∨ w.heap.size ≤ k_)) u9000_ x0_1) ∧ Aside0 (Kept w w' (fun k_ => P0_ k_)) ∧ Aside0 (Below w0.heap.size w0 w'))
  case atStart => exact ⟨(l0), (a1), (0), (by first | rfl | (simp; done) | (simp [*]; done)), (by first | rfl | (simp; done) | (simp [*]; done)), H', ⟨Nat.le_refl _⟩, ⟨by (with_reducible repeat (first | apply Kd.R_alloc | apply Kd.R_drewN | apply Kd.R_drew)); exact HO0.out⟩, ⟨by repeat (first | (with_reducible first | exact HK.out | apply Kept.alloc | apply Kept.drewN | apply Kept.drew) | exact HK.out)⟩, ⟨by repeat (first | (with_reducible first | exact HB.out | apply below_alloc | apply pw_below_drewN | apply below_drew1) | exact HB.out)⟩⟩
  case round =>
    clear H'
    try clear p2
    obtain ⟨x0_1, x1_1, x5_1, rfl, rfl, HA, HK1, HO_0, HK, HB⟩ := hrel
    cases gk with
    | zero => exact absurd HA.out (by simp [laws_markIntS.l0])
    | succ k1 =>
      have H := HA.out
      clear HA
      simp only [laws_markIntS.l0] at H
      by_cases c3 : x5_1 < (x0_1.length : Int)
      · rw [if_pos c3] at H
        have c3b0 : decide (x5_1 < (x0_1.length : Int)) = true := decide_eq_true c3
        clear c3
        by_cases c4 : 0 ≤ x5_1
        · rw [if_pos c4] at H
          have c4b0 : decide (0 ≤ x5_1) = true := decide_eq_true c4
          clear c4
          obtain ⟨y430, hy430⟩ : ∃ y_ : List Int, y_ = (x0_1.set (x5_1 : Int).toNat x1_1) := ⟨_, rfl⟩
          replace H : (laws_markIntS.l0 k1 y430 (wrap64 (x1_1 + 1)) (wrap64 (x5_1 + 1))) = some (r1, r2) := by first | (rw [hy430]; with_reducible exact H) | (have H2_ := (Option.bind_some _ _).symm.trans H; rw [hy430]; with_reducible exact H2_) | (have H2_ := (Option.bind_some _ _).symm.trans H; with_reducible exact H2_) | with_reducible exact H | (rw [hy430]; exact H) | exact H
          have Ny430 := Aside0.mk hy430
          clear hy430
          have H' := Aside0.mk H
          clear H
          obtain ⟨Ao6, co6, eo6⟩ := Kd.R_slice HO_0.out
          subst eo6
          have p5 : 0 ≤ (x5_1 : Int) := of_decide_eq_true (by first | (with_reducible assumption) | assumption)
          have q5 : (x5_1 : Int) < ((x0_1.length : Int) : Int) := of_decide_eq_true (by first | (with_reducible assumption) | assumption)
          obtain ⟨go5, co5, eo5, gb5, gl5, cl5, HG5⟩ := Kd.R_form HO_0.out (by omega)
          (first | cases eo5 | (injection eo5 with ea_ en_ ec_; (first | subst ea_ | (injection ea_ with ea_; subst ea_)); subst ec_; clear en_))
          have GB5 := Aside0.mk gb5
          have GG5 := Aside0.mk HG5
          clear gb5 gl5 HG5
          have HMgo5 := Aside0.mk (show (P0_ go5 ∨ w.heap.size ≤ go5) from (HO_0.out.1 _ rfl))
          obtain ⟨hx5_0, hf5_0⟩ := Kd.R_celln 0 HO_0.out (x5_1 : Int) p5 q5
          replace p5 := eq_true p5
          replace q5 := eq_true q5
          have HP7 := Kd.R_putg HO_0.out (x5_1 : Int) x1_1
          go_wp2_with (first | ((with_reducible refine gate_store (t := 3) (p := 15) rfl ?_); refine store_event (t := 3) (p := 15) (v := ?vo_w8) (w1 := (wr.setCell ⟨go5, (x5_1 : Int).toNat, none⟩ (.int .i64 x1_1))) ?hg ?ho ?hn ?hr ?_; (case ho => rfl); (case hg => rfl); (case hn => rfl); (case hr => first | (go_simp; done) | (go_simp; rfl)); intro w8 hw; have hg : wr.grownBy w8 (some go5) := (by rw [hw]; exact HP7.2); have hp_ : Kd.R (Kd.int .i64) 3 w8 w0.heap.size (fun k_ => (P0_ k_ ∨ w.heap.size ≤ k_)) (.slice (some ⟨go5, 0, none⟩) x0_1.length co6) y430 := (by rw [hw, Ny430.out]; exact HP7.1); clear HP7; have n0_ := Aside0.mk (hp_); have n1_ := Aside0.mk ((by rw [hw]; exact below_set (HB.out) GB5.out : Below w0.heap.size w0 w8)); have n2_ := Aside0.mk (Kept.of_grown (S := (fun k_ => P0_ k_)) hg (by repeat (first | (with_reducible first | exact HK.out | apply Kept.alloc | apply Kept.drewN | apply Kept.drew) | exact HK.out)) (fun k_ e_ => (HO_0.out.1 k_ e_))); clear HO_0; clear HB; clear HK; have HO_0 := n0_; have HB := n1_; have HK := n2_; clear n0_ n1_ n2_; clear hg hw hp_))
          go_roundg k1
          case measure => have := HK1.out; omega
          case rel => exact ⟨(y430), (wrap64 (x1_1 + 1)), (wrap64 (x5_1 + 1)), (by first | rfl | (simp; done) | (simp [*]; done)), (by first | rfl | (simp; done) | (simp [*]; done)), H', ⟨by have := HK1.out; omega⟩, ⟨by (with_reducible repeat (first | apply Kd.R_alloc | apply Kd.R_drewN | apply Kd.R_drew)); exact HO_0.out⟩, ⟨by repeat (first | (with_reducible first | exact HK.out | apply Kept.alloc | apply Kept.drewN | apply Kept.drew) | exact HK.out)⟩, ⟨by repeat (first | (with_reducible first | exact HB.out | apply below_alloc | apply pw_below_drewN | apply below_drew1) | exact HB.out)⟩⟩
        · rw [if_neg c4] at H
          exact absurd H (by simp)
      · rw [if_neg c3] at H
        have c3b0 : decide (x5_1 < (x0_1.length : Int)) = false := decide_eq_false c3
        clear c3
        simp only [Option.some.injEq, Prod.mk.injEq] at H
        obtain ⟨rfl, rfl⟩ := H
        obtain ⟨Ao9, co9, eo9⟩ := Kd.R_slice HO_0.out
        subst eo9
        go_wp2
        go_ret
        exact ⟨by first | rfl | (simp [errW_none, errW_some] <;> rfl) | (simp [*, errW_none, errW_some] <;> rfl), by (with_reducible repeat (first | apply Kd.R_alloc | apply Kd.R_drewN | apply Kd.R_drew)); exact HO_0.out, by repeat (first | (with_reducible first | exact HB.out | apply below_alloc | apply pw_below_drewN | apply below_drew1) | exact HB.out), by repeat (first | (with_reducible first | exact HK.out | apply Kept.alloc | apply Kept.drewN | apply Kept.drew) | exact HK.out)⟩

end Go.Proofs.Ytllnieknogficaa.K
namespace Go.Proofs.Ytllnieknogficaa.K
open Go.RowKit Go.Proofs.YtllnieknogficaaW.PrintWords Go.Proofs.YtllnieknogficaaW.PrintLast Go.Proofs.YtllnieknogficaaW.PrintMore
attribute [local go_sem] max2_int min2_int max_two min_two max_three min_three max_four min_four   -- for this text's walks alone
set_option linter.unusedVariables false
set_option linter.unusedSimpArgs false

/-! ### laws_markIntSS: function 39 -/
def laws_markIntSS.row (k : Int) (n : Nat) : List Int := (List.range n).map fun (i : Nat) => k + (i : Int)
def laws_markIntSS.rows : Int → List (List Int) → List (List Int)
  | _, [] => []
  | k, r :: t => laws_markIntSS.row k r.length :: laws_markIntSS.rows (k + (r.length : Int)) t
def laws_markIntSS.tot : List (List Int) → Nat
  | [] => 0
  | r :: t => r.length + laws_markIntSS.tot t
theorem laws_markIntSS.row_length (k : Int) (n : Nat) : (laws_markIntSS.row k n).length = n := by simp [laws_markIntSS.row]
/-- markIntS, from place i on. -/
theorem laws_markIntSS.marks (l : List Int) (a : Int) (h0 : 0 ≤ a) (hl : a + (l.length : Int) ≤ 4611686018427387904) : ∀ d k (i : Nat), i ≤ l.length → l.length - i = d → d < k →
    laws_markIntS.l0 k (laws_markIntSS.row a i ++ l.drop i) (a + (i : Int)) (i : Int) = some (a + (l.length : Int), laws_markIntSS.row a l.length) := by
  intro d
  induction d with
  | zero =>
    intro k i hi hd hk
    obtain ⟨k, rfl⟩ : ∃ m, k = m + 1 := ⟨k - 1, by omega⟩
    have : i = l.length := by omega
    subst this
    simp only [laws_markIntS.l0]
    rw [if_neg (by simp [laws_markIntSS.row_length])]
    simp
  | succ d ih =>
    intro k i hi hd hk
    obtain ⟨k, rfl⟩ : ∃ m, k = m + 1 := ⟨k - 1, by omega⟩
    have hlt : i < l.length := by omega
    simp only [laws_markIntS.l0]
    rw [if_pos (by simp [laws_markIntSS.row_length]; omega), if_pos (by omega)]
    have hw : wrap64 ((i : Int) + 1) = ((i + 1 : Nat) : Int) := by unfold wrap64; omega
    have hw2 : wrap64 (a + (i : Int) + 1) = a + ((i + 1 : Nat) : Int) := by unfold wrap64; omega
    have hs : (laws_markIntSS.row a i ++ l.drop i).set (i : Int).toNat (a + (i : Int)) = laws_markIntSS.row a (i + 1) ++ l.drop (i + 1) := by
      rw [Int.toNat_natCast, List.set_append_right _ _ (by rw [laws_markIntSS.row_length]; omega), laws_markIntSS.row_length, Nat.sub_self, List.drop_eq_getElem_cons hlt, List.set_cons_zero]
      unfold laws_markIntSS.row
      rw [List.range_succ, List.map_append, List.append_assoc]
      rfl
    rw [hw, hw2, hs]
    exact ih k (i + 1) (by omega) (by omega) (by omega)
theorem laws_markIntSS.mark (l : List Int) (a : Int) (h0 : 0 ≤ a) (hl : a + (l.length : Int) ≤ 4611686018427387904) :
    laws_markIntS.f (l.length + 1) l a = some (a + (l.length : Int), laws_markIntSS.row a l.length) := by
  have h := laws_markIntSS.marks l a h0 hl l.length (l.length + 1) 0 (by omega) (by omega) (by omega)
  simpa [laws_markIntS.f, laws_markIntSS.row] using h
theorem laws_markIntSS.tot_append (a b : List (List Int)) : laws_markIntSS.tot (a ++ b) = laws_markIntSS.tot a + laws_markIntSS.tot b := by
  induction a with
  | nil => simp [laws_markIntSS.tot]
  | cons r t ih => simp [laws_markIntSS.tot, ih]; omega
theorem laws_markIntSS.rows_append (a b : List (List Int)) : ∀ k, laws_markIntSS.rows k (a ++ b) = laws_markIntSS.rows k a ++ laws_markIntSS.rows (k + (laws_markIntSS.tot a : Int)) b := by
  induction a with
  | nil => intro k; simp [laws_markIntSS.rows, laws_markIntSS.tot]
  | cons r t ih =>
    intro k
    simp only [List.cons_append, laws_markIntSS.rows, laws_markIntSS.tot]
    rw [ih]
    congr 3
    push_cast
    omega
theorem laws_markIntSS.rows_length : ∀ (l : List (List Int)) k, (laws_markIntSS.rows k l).length = l.length
  | [], _ => rfl
  | _ :: t, _ => by simp [laws_markIntSS.rows, laws_markIntSS.rows_length t]
/-- What stands in memory behind i rounds. -/
def laws_markIntSS.upto (a : Int) (l : List (List Int)) (i : Nat) : List (List Int) := laws_markIntSS.rows a (l.take i) ++ l.drop i
theorem laws_markIntSS.upto_length (a : Int) (l : List (List Int)) (i : Nat) : (laws_markIntSS.upto a l i).length = l.length := by
  simp [laws_markIntSS.upto, laws_markIntSS.rows_length]; omega
theorem laws_markIntSS.upto_at (a : Int) (l : List (List Int)) (i : Nat) (h : i < l.length) : (laws_markIntSS.upto a l i).getD i [] = l[i] := by
  have hl : (laws_markIntSS.rows a (l.take i)).length = i := by rw [laws_markIntSS.rows_length, List.length_take]; omega
  rw [List.getD_eq_getElem?_getD, laws_markIntSS.upto, List.getElem?_append_right (by omega), hl, Nat.sub_self, List.getElem?_drop]
  simp [h]
theorem laws_markIntSS.upto_set (a : Int) (l : List (List Int)) (i : Nat) (h : i < l.length) : (laws_markIntSS.upto a l i).set i (laws_markIntSS.row (a + (laws_markIntSS.tot (l.take i) : Int)) l[i].length) = laws_markIntSS.upto a l (i + 1) := by
  have hl : (laws_markIntSS.rows a (l.take i)).length = i := by rw [laws_markIntSS.rows_length, List.length_take]; omega
  rw [laws_markIntSS.upto, List.set_append_right _ _ (by omega), hl, Nat.sub_self, List.drop_eq_getElem_cons h, List.set_cons_zero, laws_markIntSS.upto, List.take_succ_eq_append_getElem h, laws_markIntSS.rows_append, List.append_assoc]
  rfl
theorem laws_markIntSS.tot_take (l : List (List Int)) (i : Nat) (h : i < l.length) : laws_markIntSS.tot (l.take (i + 1)) = laws_markIntSS.tot (l.take i) + l[i].length := by
  rw [List.take_succ_eq_append_getElem h, laws_markIntSS.tot_append]; simp [laws_markIntSS.tot]
theorem laws_markIntSS.tot_le (l : List (List Int)) (i : Nat) : laws_markIntSS.tot (l.take i) ≤ laws_markIntSS.tot l := by
  have := laws_markIntSS.tot_append (l.take i) (l.drop i)
  rw [List.take_append_drop] at this
  omega
set_option maxHeartbeats 1000000 in
set_option maxRecDepth 100000 in
theorem laws_markIntSS.calls (P0_ : Nat → Prop) (u : Value) (l0 : List (List Int)) (a1 : Int) (w0 w : World) (h0 : 0 ≤ a1) (hk : a1 + (laws_markIntSS.tot l0 : Int) ≤ 4611686018427387904) (hB : Below w0.heap.size w0 w) (ho0 : Kd.S (Kd.slice 3 (Kd.int .i64)) 24 w w0.heap.size P0_ u l0) :
    Calls Try.prog 39 #[u, .int .i64 a1] w fun e w' => e = .returned (.int .i64 (a1 + (laws_markIntSS.tot l0 : Int))) ∧ Kd.S (Kd.slice 3 (Kd.int .i64)) 24 w' w0.heap.size P0_ u (laws_markIntSS.rows a1 l0) ∧ Below w0.heap.size w0 w' ∧ Kept w w' P0_ := by
  obtain ⟨A, c, rfl, hlc, hC⟩ := Kd.S_reads ho0
  have hmax := Kd.C_max hC
  clear hC
  have HO := Aside0.mk ho0
  have HB := Aside0.mk hB
  clear ho0 hB
  have HZ := Aside0.mk (show laws_markIntSS.upto a1 l0 0 = l0 from by simp [laws_markIntSS.upto, laws_markIntSS.rows])
  have HT := Aside0.mk (fun i => laws_markIntSS.tot_le l0 i)
  go_enter Try.func39, Try.ntmps39
  go_wp2
  go_loopg [1, 5] l0.length (fun gg s1 s5 wr => ∃ i : Nat, i ≤ l0.length ∧ l0.length - i ≤ gg ∧ s1 = .int .i64 (a1 + (laws_markIntSS.tot (l0.take i) : Int)) ∧ s5 = .int .i64 i ∧ Aside0 (Kd.S (Kd.slice 3 (Kd.int .i64)) 24 wr w0.heap.size P0_ (.slice A l0.length c) (laws_markIntSS.upto a1 l0 i)) ∧ Aside0 (Below w0.heap.size w0 wr) ∧ Aside0 (Kept w wr P0_))
  case atStart => exact ⟨0, Nat.zero_le _, by omega, by simp [laws_markIntSS.tot], rfl, ⟨by rw [HZ.out]; exact HO.out⟩, HB, ⟨Kept.refl _ _⟩⟩
  case round =>
    obtain ⟨i, hi, hg, rfl, rfl, HS, HBr, HKr⟩ := hrel
    by_cases hlt : i < l0.length
    · have hltz : (i : Int) < (l0.length : Int) := by omega
      have hz : (0 : Int) ≤ (i : Int) := by omega
      obtain ⟨g, cap, hv, hgb, hgl, cells, hgc⟩ := Kd.S_form HS.out (by rw [laws_markIntSS.upto_length]; omega)
      rw [laws_markIntSS.upto_length] at hv
      injection hv with hv1 hv2 hv3
      subst hv1
      subst hv3
      clear hv2 hgc
      obtain ⟨oki, cs, hcl, hM, hcc, hoki, hH⟩ := Kd.S_lend HS.out [] (i : Int) hz hltz
      obtain ⟨vi, rfl, hR⟩ := hM
      have hx := hcc 0 _ rfl
      rw [Int.toNat_natCast, laws_markIntSS.upto_at a1 l0 i hlt] at hR
      simp only [Int.toNat_natCast, show (Kd.slice 3 (Kd.int .i64)).sz = 1 from rfl, Nat.mul_one, Nat.add_zero] at hx
      have hUS := laws_markIntSS.upto_set a1 l0 i hlt
      have hTT := laws_markIntSS.tot_take l0 i hlt
      have hle := HT.out (i + 1)
      have hm := laws_markIntSS.mark l0[i] (a1 + (laws_markIntSS.tot (l0.take i) : Int)) (by omega) (by omega)
      have HUS := Aside0.mk hUS
      have HTT := Aside0.mk hTT
      have HM := Aside0.mk hm
      have HR := Aside0.mk hR
      have HOI := Aside0.mk hoki
      have HH := Aside0.mk hH
      clear hUS hTT hm hle hR hcc hcl hoki hH
      obtain ⟨Ai, ci, e1⟩ := Kd.R_slice HR.out
      subst e1
      go_wp2_with (go_at_call 46; refine (laws_markIntS.calls _ oki _ l0[i] _ _ _ w0 _ HBr.out HR.out HM.out).mono ?_; rintro e w' ⟨rfl, hr', hb', hk'⟩)
      have HR' := Aside0.mk hr'
      have HB' := Aside0.mk hb'
      have HK' := Aside0.mk hk'
      clear hr' hb' hk'
      go_roundg (l0.length - (i + 1))
      case measure => omega
      case rel =>
        refine ⟨i + 1, by omega, by omega, ?_, by go_num, ⟨?_⟩, HB', ⟨?_⟩⟩
        · rw [HTT.out]; push_cast; first | rfl | (congr 1; omega)
        · rw [← HUS.out]
          have h2 := Kd.H_back (Kd.H_kept HH.out HK'.out (fun k _ hn => hn)) (x' := laws_markIntSS.row (a1 + (laws_markIntSS.tot (l0.take i) : Int)) l0[i].length) (okp := oki) ⟨_, rfl, Kd.R_reok rfl HR'.out (fun k e_ => HR.out.1 k e_)⟩ (fun _ h => h)
          rw [Int.toNat_natCast] at h2
          exact h2
        · exact Kept.then_ HKr.out HK'.out (fun k hk => .inl (HOI.out k hk).1)
    · have hltz : ¬ (i : Int) < (l0.length : Int) := by omega
      have hk2 : i = l0.length := by omega
      subst hk2
      have HF := Aside0.mk (show laws_markIntSS.upto a1 l0 l0.length = laws_markIntSS.rows a1 l0 from by simp [laws_markIntSS.upto])
      go_wp2
      go_ret
      exact ⟨rfl, by rw [← HF.out]; exact HS.out, HBr.out, HKr.out⟩

end Go.Proofs.Ytllnieknogficaa.K
namespace Go.Proofs.Ytllnieknogficaa.K
open Go.RowKit Go.Proofs.YtllnieknogficaaW.PrintWords Go.Proofs.YtllnieknogficaaW.PrintLast Go.Proofs.YtllnieknogficaaW.PrintMore
attribute [local go_sem] max2_int min2_int max_two min_two max_three min_three max_four min_four   -- for this text's walks alone
set_option linter.unusedVariables false
set_option linter.unusedSimpArgs false
/-- A mark at which the walk halts. -/
def Stop (p : Prop) : Prop := p
theorem StopI {p : Prop} (h : Stop p) : p := h
/-- Rows of rows between two marks of the heap. -/
structure OwnSS (w W : World) (lo hi : Nat) (v : Value) (R : List (List Int)) : Prop where
  s : Kd.S (Kd.slice 3 (Kd.int .i64)) 24 W w.heap.size (fun k => lo ≤ k ∧ k < hi) v R
  b : w.heap.size ≤ lo
  t : hi ≤ W.heap.size
/-- A row between two marks of the heap. -/
structure OwnR {α : Type} (d : Kd α) (e : Nat) (w W : World) (lo hi : Nat) (v : Value) (R : List α) : Prop where
  s : Kd.R d e W w.heap.size (fun k => lo ≤ k ∧ k < hi) v R
  b : w.heap.size ≤ lo
  t : hi ≤ W.heap.size
theorem OwnSS.new {w w1 w2 : World} {v : Value} {R : List (List Int)} (ho : Kd.S (Kd.slice 3 (Kd.int .i64)) 24 w2 w1.heap.size (fun _ => True) v R) (HB : Below w.heap.size w w1) : OwnSS w w2 w1.heap.size w2.heap.size v R :=
  ⟨Kd.S_lower (Kd.S_mono (Kd.S_bound ho) (fun _ hk => ⟨hk.2.1, hk.2.2.1⟩)) HB.size, HB.size, Nat.le_refl _⟩
theorem OwnSS.step {w W W' : World} {lo hi : Nat} {v : Value} {R : List (List Int)} (h : OwnSS w W lo hi v R) (hb : Below W.heap.size W W') : OwnSS w W' lo hi v R := ⟨Kd.S_below h.s hb, h.b, Nat.le_trans h.t hb.size⟩
theorem OwnSS.kept {w W W' : World} {lo hi : Nat} {P : Nat → Prop} {v : Value} {R : List (List Int)} (h : OwnSS w W lo hi v R) (hk : Kept W W' P) (hP : ∀ k, lo ≤ k → k < hi → ¬ P k) : OwnSS w W' lo hi v R :=
  ⟨Kd.S_kept h.s hk (fun k hk => hP k hk.1 hk.2), h.b, Nat.le_trans h.t hk.1⟩
theorem OwnSS.reads {w W : World} {lo hi : Nat} {v : Value} {R : List (List Int)} (h : OwnSS w W lo hi v R) : ∃ A c, v = .slice A R.length c ∧ R.length ≤ c := by
  obtain ⟨A, c, e, hl, _⟩ := Kd.S_reads h.s
  exact ⟨A, c, e, hl⟩
theorem OwnSS.c {w W : World} {lo hi n c : Nat} {A : Option Addr} {R : List (List Int)} (h : OwnSS w W lo hi (.slice A n c) R) : Kd.C (Kd.slice 3 (Kd.int .i64)) W A R.length R := (Kd.S_reads' h.s).2.2
theorem OwnSS.done {w W W' : World} {lo hi : Nat} {v : Value} {R R' : List (List Int)} (h : OwnSS w W lo hi v R) (hs : Kd.S (Kd.slice 3 (Kd.int .i64)) 24 W' w.heap.size (fun k => lo ≤ k ∧ k < hi) v R') (hk : W.heap.size ≤ W'.heap.size) : OwnSS w W' lo hi v R' := ⟨hs, h.b, Nat.le_trans h.t hk⟩
section
variable {α : Type} {d : Kd α} {e : Nat}
theorem OwnR.new {w w1 w2 : World} {v : Value} {R : List α} (ho : Kd.R d e w2 w1.heap.size (fun _ => True) v R) (HB : Below w.heap.size w w1) : OwnR d e w w2 w1.heap.size w2.heap.size v R :=
  ⟨Kd.R_lower (Kd.R_mono (Kd.R_bound ho) (fun _ hk => ⟨hk.2.1, hk.2.2.1⟩)) HB.size, HB.size, Nat.le_refl _⟩
theorem OwnR.step {w W W' : World} {lo hi : Nat} {v : Value} {R : List α} (h : OwnR d e w W lo hi v R) (hb : Below W.heap.size W W') : OwnR d e w W' lo hi v R := ⟨Kd.R_below h.s hb, h.b, Nat.le_trans h.t hb.size⟩
theorem OwnR.kept {w W W' : World} {lo hi : Nat} {P : Nat → Prop} {v : Value} {R : List α} (h : OwnR d e w W lo hi v R) (hk : Kept W W' P) (hP : ∀ k, lo ≤ k → k < hi → ¬ P k) : OwnR d e w W' lo hi v R :=
  ⟨Kd.R_kept h.s hk (fun k hk => hP k hk.1 hk.2), h.b, Nat.le_trans h.t hk.1⟩
theorem OwnR.reads {w W : World} {lo hi : Nat} {v : Value} {R : List α} (h : OwnR d e w W lo hi v R) : ∃ A c, v = .slice A R.length c ∧ R.length ≤ c := by
  obtain ⟨A, c, e, hl, _⟩ := Kd.R_reads h.s
  exact ⟨A, c, e, hl⟩
theorem OwnR.c {w W : World} {lo hi n c : Nat} {A : Option Addr} {R : List α} (h : OwnR d e w W lo hi (.slice A n c) R) : Kd.C d W A R.length R := (Kd.R_reads' h.s).2.2
theorem OwnR.done {w W W' : World} {lo hi : Nat} {v : Value} {R R' : List α} (hE : d.E = []) (h : OwnR d e w W lo hi v R) {ok : Nat → Prop} (hs : Kd.R d e W' w.heap.size ok v R') (hk : W.heap.size ≤ W'.heap.size) : OwnR d e w W' lo hi v R' :=
  ⟨Kd.R_reok hE hs (fun k he => h.s.1 k he), h.b, Nat.le_trans h.t hk⟩
end
theorem OwnR.cell {w W : World} {lo hi n cap g : Nat} {x : List Int} (h : OwnR (Kd.int .i64) 3 w W lo hi (.slice (some ⟨g, 0, none⟩) n cap) x) (i : Nat) (hi2 : i < n) (a : Int) (ha : x.getD i 0 = a) :
    W.cell? ⟨g, i, none⟩ = some (.int .i64 a) ∧ W.frozen? ⟨g, i, none⟩ = false := by
  have h2 := Kd.R_celln (0 : Int) h.s (i : Int) (by omega) (by omega)
  have h3 : rdOf (0 : Int) x (i : Int) = a := by rw [← ha]; show x.getD (i : Int).toNat 0 = _; rw [Int.toNat_natCast]
  rw [h3, Int.toNat_natCast] at h2
  exact h2
theorem OwnR.put {w W : World} {lo hi n cap g : Nat} {x : List Int} (h : OwnR (Kd.int .i64) 3 w W lo hi (.slice (some ⟨g, 0, none⟩) n cap) x) (i : Nat) (v : Int) :
    OwnR (Kd.int .i64) 3 w (W.setCell ⟨g, i, none⟩ (.int .i64 v)) lo hi (.slice (some ⟨g, 0, none⟩) n cap) (x.set i v) := by
  have h2 := Kd.R_putn h.s (i : Int) v
  rw [Int.toNat_natCast] at h2
  exact ⟨h2, h.b, by have := h.t; simpa [World.setCell] using this⟩
theorem OwnR.far {α : Type} {d : Kd α} {e : Nat} {w W : World} {lo hi : Nat} {v : Value} {x : List α} (h : OwnR d e w W lo hi v x) {p : Addr} (hp : p.block < lo ∨ hi ≤ p.block) (u : Value) : OwnR d e w (W.setCell p u) lo hi v x :=
  ⟨Kd.R_far h.s (fun k hk => by omega) u, h.b, by have := h.t; simpa [World.setCell] using this⟩
theorem OwnR.blk {α : Type} {d : Kd α} {e : Nat} {w W : World} {lo hi n cap g : Nat} {x : List α} (h : OwnR d e w W lo hi (.slice (some ⟨g, 0, none⟩) n cap) x) : lo ≤ g ∧ g < hi := h.s.1 g (by simp [Value.ownBlock])
theorem OwnR.form {α : Type} {d : Kd α} {e : Nat} {w W : World} {lo hi n c : Nat} {A : Option Addr} {x : List α} (h : OwnR d e w W lo hi (.slice A n c) x) (hp : 0 < x.length) : ∃ g, A = some ⟨g, 0, none⟩ := by
  obtain ⟨g, cap, hv, _⟩ := Kd.R_form h.s hp
  injection hv with e1 _ _
  exact ⟨g, e1⟩
/-- A place of rows of rows: its cell, and what a store there leaves. -/
theorem tab_cell {W : World} {base n c : Nat} {ok : Nat → Prop} {A : Option Addr} {R : List (List Int)} (h : Kd.S (Kd.slice 3 (Kd.int .i64)) 24 W base ok (.slice A n c) R) (i j : Nat) (hi : i < R.length) (hj : j < (R.getD i []).length) :
    ∃ g gi ci : Nat, A = some ⟨g, 0, none⟩ ∧ W.cell? ⟨g, i, none⟩ = some (.slice (some ⟨gi, 0, none⟩) (R.getD i []).length ci) ∧ W.cell? ⟨gi, j, none⟩ = some (.int .i64 ((R.getD i []).getD j 0)) ∧ W.frozen? ⟨gi, j, none⟩ = false ∧ ok gi ∧ base ≤ gi ∧ gi < W.heap.size ∧
      ∀ v, Kd.S (Kd.slice 3 (Kd.int .i64)) 24 (W.setCell ⟨gi, j, none⟩ (.int .i64 v)) base ok (.slice A n c) (R.set i ((R.getD i []).set j v)) := by
  obtain ⟨hn, hle, hC⟩ := Kd.S_reads' h
  obtain ⟨g, cap, hv, hb, hl, hcells⟩ := Kd.R_form (Kd.S_R h) (by omega)
  injection hv with e1 e2 e3
  subst e1
  obtain ⟨oki, cs, hcl, hM, hcc, hok, hbk⟩ := Kd.S_borrow h [] (i : Int) (by omega) (by omega)
  rw [Int.toNat_natCast] at hM hcc hbk
  obtain ⟨u, rfl, hR⟩ := hM
  have hu := hcc 0 _ rfl
  obtain ⟨gi, ci, rfl, hbi, hli, _⟩ := Kd.R_form hR (by omega)
  obtain ⟨h2, h3⟩ := Kd.R_celln (0 : Int) hR (j : Int) (by omega) (by omega)
  have h4 : rdOf (0 : Int) (R.getD i []) (j : Int) = (R.getD i []).getD j 0 := by show (R.getD i []).getD (j : Int).toNat 0 = _; rw [Int.toNat_natCast]
  rw [h4, Int.toNat_natCast] at h2
  rw [Int.toNat_natCast] at h3
  have hoi : oki gi := hR.1 gi (by simp [Value.ownBlock])
  refine ⟨g, gi, ci, rfl, ?_, h2, h3, (hok gi hoi).1, hbi, hli, fun v => ?_⟩
  · have h5 : (⟨g, 0, none⟩ : Addr).add (i * 1 + 0) = ⟨g, i, none⟩ := by rw [Nat.mul_one, Nat.add_zero, add_plain]
    rw [← h5]; exact hu
  · have h6 := Kd.R_putg hR (j : Int) v
    rw [Int.toNat_natCast] at h6
    exact hbk h6.2 (fun k hk => by injection hk with hk; subst hk; exact hoi) ⟨_, rfl, h6.1⟩
theorem OwnSS.far {w W : World} {lo hi : Nat} {v : Value} {R : List (List Int)} (h : OwnSS w W lo hi v R) {p : Addr} (hp : p.block < lo ∨ hi ≤ p.block) (u : Value) : OwnSS w (W.setCell p u) lo hi v R :=
  ⟨Kd.S_far h.s (fun k hk => by omega) u, h.b, by have := h.t; simpa [World.setCell] using this⟩
theorem OwnSS.put {w W : World} {lo hi n c : Nat} {A : Option Addr} {R : List (List Int)} (h : OwnSS w W lo hi (.slice A n c) R) (i j : Nat) (hi2 : i < R.length) (hj : j < (R.getD i []).length) :
    ∃ g gi ci : Nat, A = some ⟨g, 0, none⟩ ∧ W.cell? ⟨g, i, none⟩ = some (.slice (some ⟨gi, 0, none⟩) (R.getD i []).length ci) ∧ W.cell? ⟨gi, j, none⟩ = some (.int .i64 ((R.getD i []).getD j 0)) ∧ W.frozen? ⟨gi, j, none⟩ = false ∧ lo ≤ gi ∧ gi < hi ∧
      ∀ v, OwnSS w (W.setCell ⟨gi, j, none⟩ (.int .i64 v)) lo hi (.slice A n c) (R.set i ((R.getD i []).set j v)) := by
  obtain ⟨g, gi, ci, h1, h2, h3, h4, h5, _, _, h7⟩ := tab_cell h.s i j hi2 hj
  exact ⟨g, gi, ci, h1, h2, h3, h4, h5.1, h5.2, fun v => ⟨h7 v, h.b, by have := h.t; simpa [World.setCell] using this⟩⟩
end Go.Proofs.Ytllnieknogficaa.K
namespace Go.Proofs.Ytllnieknogficaa.K
open Go.RowKit Go.Proofs.YtllnieknogficaaW.PrintWords Go.Proofs.YtllnieknogficaaW.PrintLast Go.Proofs.YtllnieknogficaaW.PrintMore
attribute [local go_sem] max2_int min2_int max_two min_two max_three min_three max_four min_four   -- for this text's walks alone
set_option linter.unusedVariables false
set_option linter.unusedSimpArgs false
theorem step_append_int {ops : Array Oper} {o : Oper} {a : Act} {K : Act → World → Prop} {Q : Exit → Act → World → Prop} {E : Prop} {W : World} (hgd : o.guard = none) (s x : Operand)
    (ho : o.op = .call { callee := .builtin .append, args := #[s, x], argTypes := #[24, 24] }) (base : Nat) (v : Value) (xs : List Int) (z : Int) (ok : Nat → Prop) (hs : a.eval s = v) (HO : Kd.R (Kd.int .i64) 3 W base ok v xs) (hfresh : ∀ k, W.heap.size ≤ k → ok k)
    (ad : Addr) (c : Nat) (hx : a.eval x = .slice (some ad) 1 c) (hnews : W.cell? ad = some (.int .i64 z)) (hl : (xs.length + 1) * 8 ≤ 140737488355328) (hbase : base ≤ W.heap.size)
    (h : ∀ g cap w', Kd.R (Kd.int .i64) 3 w' base ok (.slice (some ⟨g, 0, none⟩) (xs.length + 1) cap) (xs ++ [z]) → W.grownBy w' v.ownBlock → K (a.put o.dst (.slice (some ⟨g, 0, none⟩) (xs.length + 1) cap)) w') :
    if Region.wanted o (yielded ops a.tmps) = true then Oper.wp Try.prog o a W K Q else E := by
  obtain ⟨h0, inner, hown, hr⟩ := HO
  obtain ⟨i, hi, hz0, hz1, hz2⟩ := info_parts info3
  refine step_append_lies W hgd s x _ ho base 3 i (.int .i64 0) 1 8 Try.underlying24 hi hz0 hz1 hz2 rfl (by omega) v xs.length inner hs hown ad 1 c [.int .i64 z] hx rfl (fun j u hj => ?_) (by simp [Value.oneCell']) (by omega) (by have : maxLen = 9223372036854775807 := rfl; omega) hl hbase W.heap.size rfl ?_
  · cases j with
    | zero =>
      simp at hj
      subst hj
      have : ad.add 0 = ad := by cases ad; rename_i b o' p; cases p <;> rfl
      rw [this]; exact hnews
    | succ j => simp at hj
  · intro g cap w' h1 h2 h3 h4
    refine h g cap w' (Kd.R_appended (v := v) (okp := fun _ => False) h0 hr rfl (fun _ hk => hk.elim) hfresh h1 h2 ?_) h2
    rcases h3 with h3 | h3
    · left; rw [h3]; rfl
    · right; exact ⟨g, rfl, by omega⟩
end Go.Proofs.Ytllnieknogficaa.K
namespace Go.Proofs.Ytllnieknogficaa.K
open Go.RowKit Go.Proofs.YtllnieknogficaaW.PrintWords Go.Proofs.YtllnieknogficaaW.PrintLast Go.Proofs.YtllnieknogficaaW.PrintMore
attribute [local go_sem] max2_int min2_int max_two min_two max_three min_three max_four min_four   -- for this text's walks alone
set_option linter.unusedVariables false
set_option linter.unusedSimpArgs false

/-! ### impl_within: function 173 -/
def impl_within.f (a0 : Int) (a1 : Int) (a2 : Int) : Option (Bool) := if a0 ≥ a1 then (some (decide (a0 ≤ a2))) else (some false)
set_option maxHeartbeats 8000000 in
set_option maxRecDepth 100000 in
theorem impl_within.calls (a0 : Int) (a1 : Int) (a2 : Int) (r : Bool) (w : World) (h : impl_within.f a0 a1 a2 = some r) :
    Calls Try.prog 173 #[.int .i64 a0, .int .i64 a1, .int .i64 a2] w fun e w' => e = .returned (.bool r) ∧ Drawn0 w w' := by
  have H : (if a0 ≥ a1 then (some (decide (a0 ≤ a2))) else (some false)) = some r := h
  clear h
  by_cases c4 : a0 ≥ a1
  · rw [if_pos c4] at H
    have c4b0 : decide (a1 ≤ a0) = true := decide_eq_true c4
    clear c4
    obtain rfl := Option.some.inj H
    go_enter Try.func173, Try.ntmps173
    go_wp2
    go_ret
    exact ⟨by first | rfl | (simp; done) | (simp [*]; done), by repeat (first | exact Drawn0.refl _ | apply Drawn0.step)⟩
  · rw [if_neg c4] at H
    have c4b0 : decide (a1 ≤ a0) = false := decide_eq_false c4
    clear c4
    obtain rfl := Option.some.inj H
    go_enter Try.func173, Try.ntmps173
    go_wp2
    go_ret
    exact ⟨by first | rfl | (simp; done) | (simp [*]; done), by repeat (first | exact Drawn0.refl _ | apply Drawn0.step)⟩

end Go.Proofs.Ytllnieknogficaa.K
namespace Go.Proofs.Ytllnieknogficaa.K
open Go.RowKit Go.Proofs.YtllnieknogficaaW.PrintWords Go.Proofs.YtllnieknogficaaW.PrintLast Go.Proofs.YtllnieknogficaaW.PrintMore
attribute [local go_sem] max2_int min2_int max_two min_two max_three min_three max_four min_four   -- for this text's walks alone
set_option linter.unusedVariables false
set_option linter.unusedSimpArgs false

/-! ### impl_allWithin: function 174 -/
def impl_allWithin.l0 : Nat → Int → Int → List Int → Int → Int → Option (Bool)
  | 0, _, _, _, _, _ => none
  | k + 1, x1, x2, x9, x10, x11 => if x11 < x10 then (if 0 ≤ x11 then (if x11 < (x9.length : Int) then ((impl_within.f (rd x9 x11) x1 x2).bind fun t208 => (if t208 = true then (impl_allWithin.l0 k x1 x2 x9 x10 (wrap64 (x11 + 1))) else (some false))) else (none)) else (none)) else (some true)
def impl_allWithin.f (k : Nat) (l0 : List Int) (a1 : Int) (a2 : Int) : Option (Bool) := impl_allWithin.l0 k a1 a2 l0 (l0.length : Int) 0
theorem impl_allWithin.mono_l : ∀ k, (∀ y0 y1 y2 y3 y4, LeO (impl_allWithin.l0 k y0 y1 y2 y3 y4) (impl_allWithin.l0 (k + 1) y0 y1 y2 y3 y4))
  | 0 => fun _ _ _ _ _ r h => by simp [impl_allWithin.l0] at h
  | k + 1 => by
    have ih0 := impl_allWithin.mono_l k
    · intro y0 y1 y2 y3 y4
      unfold impl_allWithin.l0
      repeat' first
      | (with_reducible exact ih0 _ _ _ _ _)
      | (with_reducible exact LeO.refl _)
      | (with_reducible exact LeO.none _)
      | (with_reducible refine LeO.ite ?_ ?_)
      | (with_reducible refine LeO.bind ?_ (fun _ => ?_))
      | exact ih0 _ _ _ _ _
      | exact LeO.none _
      | refine LeO.ite ?_ ?_
      | refine LeO.bind ?_ (fun _ => ?_)
theorem impl_allWithin.mono : ∀ a0 a1 a2 k, LeO (impl_allWithin.f k a0 a1 a2) (impl_allWithin.f (k + 1) a0 a1 a2) := by
  intro a0 a1 a2 k
  have ih0 := impl_allWithin.mono_l k
  unfold impl_allWithin.f
  repeat' first
      | (with_reducible exact ih0 _ _ _ _ _)
      | (with_reducible exact LeO.refl _)
      | (with_reducible exact LeO.none _)
      | (with_reducible refine LeO.ite ?_ ?_)
      | (with_reducible refine LeO.bind ?_ (fun _ => ?_))
      | exact ih0 _ _ _ _ _
      | exact LeO.none _
      | refine LeO.ite ?_ ?_
      | refine LeO.bind ?_ (fun _ => ?_)
set_option maxHeartbeats 8000000 in
set_option maxRecDepth 100000 in
theorem impl_allWithin.calls (k : Nat) (A0 : Option Addr) (c0 : Nat) (l0 : List Int) (a1 : Int) (a2 : Int) (r : Bool) (w : World) (hr0 : Kd.C (Kd.int .i64) w A0 l0.length l0) (hc0 : l0.length ≤ c0) (h : impl_allWithin.f k l0 a1 a2 = some r) :
    Calls Try.prog 174 #[.slice A0 l0.length c0, .int .i64 a1, .int .i64 a2] w fun e w' => e = .returned (.bool r) ∧ Drawn0 w w' := by
  have HR0 := Aside0.mk hr0
  have HC0 := Aside0.mk hc0
  clear hr0 hc0
  have H : (impl_allWithin.l0 k a1 a2 l0 (l0.length : Int) 0) = some r := h
  clear h
  have H' := Aside0.mk H
  clear H
  go_enter Try.func174, Try.ntmps174
  go_wp2
  go_loopg [11] k (fun kq v11 w' => ∃ (x11_1 : Int), v11 = .int .i64 x11_1 ∧ Aside0 (impl_allWithin.l0 kq a1 a2 l0 (l0.length : Int) x11_1 = some r) ∧ Aside0 (kq ≤ k) ∧ Drawn0 w w')
  case atStart => exact ⟨(0), (by first | rfl | (simp; done) | (simp [*]; done)), H', ⟨Nat.le_refl _⟩, by repeat (first | exact Drawn0.refl _ | apply Drawn0.step)⟩
  case round =>
    clear H'
    try clear c1
    try clear p2
    obtain ⟨x11_1, rfl, HA, HK1, ⟨m1, rfl⟩⟩ := hrel
    cases gk with
    | zero => exact absurd HA.out (by simp [impl_allWithin.l0])
    | succ k1 =>
      have H := HA.out
      clear HA
      simp only [impl_allWithin.l0] at H
      by_cases c4 : x11_1 < (l0.length : Int)
      · rw [if_pos c4] at H
        have c4b0 : decide (x11_1 < (l0.length : Int)) = true := decide_eq_true c4
        clear c4
        by_cases c5 : 0 ≤ x11_1
        · rw [if_pos c5] at H
          have c5b0 : decide (0 ≤ x11_1) = true := decide_eq_true c5
          clear c5
          by_cases c6 : x11_1 < (l0.length : Int)
          · rw [if_pos c6] at H
            have c6b0 : decide (x11_1 < (l0.length : Int)) = true := decide_eq_true c6
            clear c6
            replace H := Option.bind_eq_some_iff.mp H
            obtain ⟨t208, A70, H⟩ := H
            replace H : (if t208 = true then (impl_allWithin.l0 k1 a1 a2 l0 (l0.length : Int) (wrap64 (x11_1 + 1))) else (some false)) = some r := H
            have A7 := Aside0.mk A70
            clear A70
            by_cases c8 : t208 = true
            · subst c8
              have H1 : (impl_allWithin.l0 k1 a1 a2 l0 (l0.length : Int) (wrap64 (x11_1 + 1))) = some r := by rw [if_pos rfl] at H; exact H
              clear H
              have H := H1
              clear H1
              have H' := Aside0.mk H
              clear H
              have p207 : 0 ≤ (x11_1 : Int) := of_decide_eq_true (by first | (with_reducible assumption) | assumption)
              have q207 : x11_1 < (l0.length : Int) := of_decide_eq_true (by first | (with_reducible assumption) | assumption)
              obtain ⟨ad207, e207, hx207_0⟩ := Kd.at_int HR0.out x11_1 p207 q207
              cases e207
              replace p207 := eq_true p207
              replace q207 := eq_true q207
              go_wp2_with (first | ((with_reducible refine gate_callee (f := 173) rfl ?_); refine goesL_ (some 18) rfl rfl Try.func173 (by kernel_rfl) rfl #[.int .i64 (rd l0 x11_1), .int .i64 a1, .int .i64 a2] rfl (by (try simp only [List.map_toArray, List.map_cons, List.map_nil]); first | done | rfl | (simp only [List.length_drop, List.length_take]; rfl)) ?_; (with_reducible refine (impl_within.calls (rd l0 x11_1) a1 a2 true _ A7.out).mono ?_); rintro e w' ⟨rfl, ⟨nd, rfl⟩⟩; refine ⟨_, rfl, ?_⟩))
              go_roundg k1
              case measure => have := HK1.out; omega
              case rel => exact ⟨(wrap64 (x11_1 + 1)), (by first | rfl | (simp; done) | (simp [*]; done)), H', ⟨by have := HK1.out; omega⟩, by repeat (first | exact Drawn0.refl _ | apply Drawn0.step)⟩
            · replace c8 := Bool.eq_false_iff.mpr c8
              subst c8
              have H1 : (some false) = some r := by rw [if_neg (show ¬ (false = true) by decide)] at H; exact H
              clear H
              have H := H1
              clear H1
              obtain rfl := Option.some.inj H
              have p207 : 0 ≤ (x11_1 : Int) := of_decide_eq_true (by first | (with_reducible assumption) | assumption)
              have q207 : x11_1 < (l0.length : Int) := of_decide_eq_true (by first | (with_reducible assumption) | assumption)
              obtain ⟨ad207, e207, hx207_0⟩ := Kd.at_int HR0.out x11_1 p207 q207
              cases e207
              replace p207 := eq_true p207
              replace q207 := eq_true q207
              go_wp2_with (first | ((with_reducible refine gate_callee (f := 173) rfl ?_); refine goesL_ (some 18) rfl rfl Try.func173 (by kernel_rfl) rfl #[.int .i64 (rd l0 x11_1), .int .i64 a1, .int .i64 a2] rfl (by (try simp only [List.map_toArray, List.map_cons, List.map_nil]); first | done | rfl | (simp only [List.length_drop, List.length_take]; rfl)) ?_; (with_reducible refine (impl_within.calls (rd l0 x11_1) a1 a2 false _ A7.out).mono ?_); rintro e w' ⟨rfl, ⟨nd, rfl⟩⟩; refine ⟨_, rfl, ?_⟩))
              go_ret
              exact ⟨by first | rfl | (simp; done) | (simp [*]; done), by repeat (first | exact Drawn0.refl _ | apply Drawn0.step)⟩
          · rw [if_neg c6] at H
            exact absurd H (by simp)
        · rw [if_neg c5] at H
          exact absurd H (by simp)
      · rw [if_neg c4] at H
        have c4b0 : decide (x11_1 < (l0.length : Int)) = false := decide_eq_false c4
        clear c4
        obtain rfl := Option.some.inj H
        go_wp2
        go_ret
        exact ⟨by first | rfl | (simp; done) | (simp [*]; done), by repeat (first | exact Drawn0.refl _ | apply Drawn0.step)⟩

end Go.Proofs.Ytllnieknogficaa.K
namespace Go.Proofs.Ytllnieknogficaa.K
open Go.RowKit Go.Proofs.YtllnieknogficaaW.PrintWords Go.Proofs.YtllnieknogficaaW.PrintLast Go.Proofs.YtllnieknogficaaW.PrintMore
attribute [local go_sem] max2_int min2_int max_two min_two max_three min_three max_four min_four   -- for this text's walks alone
set_option linter.unusedVariables false
set_option linter.unusedSimpArgs false

/-! ### impl_isPlan: function 118 -/
def impl_isPlan.p (n : Nat) (r : List Int) : Bool := decide (r.length = n) && r.all fun x => decide (0 ≤ x) && decide (x ≤ 60)
def impl_isPlan.f (l0 : List (List Int)) : Option Bool := some (decide (1 ≤ l0.length) && decide (l0.length ≤ 8) && l0.all (impl_isPlan.p l0.length))
/-- All numbers of a list lie between two others: what the printed loop comes to. -/
theorem impl_isPlan.all (l : List Int) (a b : Int) (hl : l.length ≤ 9223372036854775807) : ∀ d k (i : Nat), i ≤ l.length → l.length - i = d → d < k →
    impl_allWithin.l0 k a b l (l.length : Int) (i : Int) = some ((l.drop i).all fun x => decide (a ≤ x) && decide (x ≤ b)) := by
  intro d
  induction d with
  | zero =>
    intro k i hi hd hk
    obtain ⟨k, rfl⟩ : ∃ m, k = m + 1 := ⟨k - 1, by omega⟩
    have : i = l.length := by omega
    subst this
    simp only [impl_allWithin.l0]
    rw [if_neg (by omega)]
    simp
  | succ d ih =>
    intro k i hi hd hk
    obtain ⟨k, rfl⟩ : ∃ m, k = m + 1 := ⟨k - 1, by omega⟩
    have hlt : i < l.length := by omega
    simp only [impl_allWithin.l0]
    rw [if_pos (by omega), if_pos (by omega), if_pos (by omega)]
    have hw : wrap64 ((i : Int) + 1) = ((i + 1 : Nat) : Int) := by unfold wrap64; omega
    have hr : rd l (i : Int) = l[i] := by unfold rd; simp [hlt]
    rw [hw, ih k (i + 1) (by omega) (by omega) (by omega), hr, List.drop_eq_getElem_cons hlt, List.all_cons]
    unfold impl_within.f
    by_cases h1 : l[i] ≥ a
    · rw [if_pos h1]
      by_cases h2 : l[i] ≤ b
      · simp only [decide_eq_true h2, Option.bind_some, if_true, decide_eq_true (show a ≤ l[i] from h1), Bool.and_self, Bool.true_and]
      · simp only [decide_eq_false h2, Option.bind_some, Bool.and_false, Bool.false_and]; rfl
    · rw [if_neg h1]
      simp only [decide_eq_false (show ¬ a ≤ l[i] from h1), Option.bind_some, Bool.false_and]; rfl
theorem impl_isPlan.allf (l : List Int) (a b : Int) (hl : l.length ≤ 9223372036854775807) : impl_allWithin.f (l.length + 1) l a b = some (l.all fun x => decide (a ≤ x) && decide (x ≤ b)) := by
  have h := impl_isPlan.all l a b hl l.length (l.length + 1) 0 (by omega) (by omega) (by omega)
  simpa [impl_allWithin.f] using h
set_option maxHeartbeats 400000 in
set_option maxRecDepth 100000 in
/-- The closure: it refuses a row. -/
theorem impl_isPlan.closure (A : Option Addr) (c : Nat) (l : List Int) (B n cm : Nat) (Am : Option Addr) (w : World) (hr : Kd.C (Kd.int .i64) w A l.length l) (hc : l.length ≤ c) (hl : l.length ≤ 9223372036854775807) (hm : w.cell? ⟨B, 0, none⟩ = some (.slice Am n cm)) :
    Calls Try.prog 205 #[.slice A l.length c, .pointer (some ⟨B, 0, none⟩)] w fun e w' => e = .returned (.bool (!impl_isPlan.p n l)) ∧ Drawn0 w w' := by
  by_cases hn : l.length = n
  · have hn1 : (l.length == n) = true := by simpa using hn
    have hn2 : ((l.length : Int) != (n : Int)) = false := by simp [hn]
    have hp : impl_isPlan.p n l = l.all fun x => decide (0 ≤ x) && decide (x ≤ 60) := by simp [impl_isPlan.p, hn]
    rw [hp]
    have hf := impl_isPlan.allf l 0 60 hl
    clear hp hn
    have HF := Aside0.mk hf
    clear hf
    go_enter Try.func205, Try.ntmps205
    go_wp2_with (go_at_call 174; refine (impl_allWithin.calls _ _ _ l 0 60 _ _ hr hc HF.out).mono ?_; rintro e w' ⟨rfl, ⟨nd, rfl⟩⟩)
    go_ret
    exact ⟨rfl, by repeat (first | exact Drawn0.refl _ | apply Drawn0.step)⟩
  · have hn2 : ((l.length : Int) != (n : Int)) = true := by simp; omega
    have hp : impl_isPlan.p n l = false := by simp [impl_isPlan.p, hn]
    rw [hp]
    clear hp
    go_enter Try.func205, Try.ntmps205
    go_wp2
    go_ret
    exact ⟨rfl, by repeat (first | exact Drawn0.refl _ | apply Drawn0.step)⟩
set_option maxHeartbeats 400000 in
set_option maxRecDepth 100000 in
/-- slices.IndexFunc over rows, at a predicate that may lay blocks of its own. -/
theorem impl_isPlan.index (pr : List Int → Bool) (g : Nat) (lb : Array Value) (eg : ∀ args w, (callFunc g args).run Try.prog w = .ok (.enter g args) w) (A : Option Addr) (c : Nat) (l0 : List (List Int)) (w : World)
    (hr : Kd.C (Kd.slice 3 (Kd.int .i64)) w A l0.length l0)
    (hp : ∀ (W : World) (A' : Option Addr) (c' : Nat) (l : List Int), Below w.heap.size w W → Kd.C (Kd.int .i64) W A' l.length l → l.length ≤ c' → l ∈ l0 → Calls Try.prog g (#[.slice A' l.length c'] ++ lb) W fun e w' => e = .returned (.bool (pr l)) ∧ Below W.heap.size W w') :
    Calls Try.prog 224 #[.slice A l0.length c, .func (.func g) #[] lb] w fun e w' => ∃ r : Int, e = .returned (.int .i64 r) ∧ (decide (r ≥ 0) = l0.any pr) ∧ Below w.heap.size w w' := by
  have hmax := Kd.C_max hr
  have HR := Aside0.mk hr
  have HP := Aside0.mk hp
  clear hr hp
  go_enter Try.func224, Try.ntmps224
  go_wp2
  go_loopg [5, 8] l0.length (fun gg _ s8 wr => ∃ kk : Nat, kk ≤ l0.length ∧ l0.length - kk ≤ gg ∧ s8 = .int .i64 kk ∧ Aside0 (Below w.heap.size w wr) ∧ Aside0 ((l0.take kk).any pr = false))
  case atStart => exact ⟨0, Nat.zero_le _, by omega, rfl, ⟨Below.refl _ w⟩, ⟨by simp⟩⟩
  case round =>
    obtain ⟨kk, hkk, hg, rfl, BW, TA⟩ := hrel
    by_cases hlt : kk < l0.length
    · have hltz : (kk : Int) < (l0.length : Int) := by omega
      have hz : (0 : Int) ≤ (kk : Int) := by omega
      obtain ⟨ad, A1, c1, e1, hx, hl1, hi1⟩ := at_L2 HR.out (kk : Int) hz hltz
      cases e1
      have hrd : rd_L2 l0 (kk : Int) = l0[kk] := by unfold rd_L2; simp [hlt]
      have hx2 := (BW.out.cell (World.block_lt_of_cell? w _ hx)).trans hx
      have hi2 := Kd.C_below hi1 BW.out
      rw [hrd, Int.toNat_natCast] at hx2
      rw [hrd] at hi2 hl1
      have hcall := HP.out wr A1 c1 l0[kk] BW.out hi2 hl1 (List.getElem_mem hlt)
      have hsnoc : (l0.take (kk + 1)).any pr = ((l0.take kk).any pr || pr l0[kk]) := by rw [List.take_succ_eq_append_getElem hlt, List.any_append]; simp
      have SN := Aside0.mk hsnoc
      clear hx hi1 hrd hsnoc
      generalize hy : l0[kk] = y at hcall hx2 hi2 hl1 SN
      have MY := Aside0.mk (show y ∈ l0 from hy ▸ List.getElem_mem hlt)
      clear hy hi2
      cases hq : pr y with
      | true =>
        rw [hq] at hcall
        have hq2 := Aside0.mk hq
        clear hq
        go_wp2_with (go_at_fn g; refine hcall.mono ?_; rintro e w' ⟨rfl, hb'⟩)
        go_ret
        refine ⟨_, rfl, ?_, below_step BW.out hb'⟩
        rw [List.any_eq_true.2 ⟨y, MY.out, hq2.out⟩]
        simp
      | false =>
        rw [hq] at hcall
        have hq2 := Aside0.mk hq
        clear hq
        go_wp2_with (go_at_fn g; refine hcall.mono ?_; rintro e w' ⟨rfl, hb'⟩)
        have HB' := Aside0.mk hb'
        clear hb'
        go_roundg (l0.length - (kk + 1))
        case measure => omega
        case rel => exact ⟨kk + 1, by omega, by omega, by go_num, ⟨below_step BW.out HB'.out⟩, ⟨by rw [SN.out, TA.out, hq2.out]; rfl⟩⟩
    · have hltz : ¬ (kk : Int) < (l0.length : Int) := by omega
      have hk2 : kk = l0.length := by omega
      subst hk2
      have hfin : l0.any pr = false := by have := TA.out; rwa [List.take_length] at this
      have HF := Aside0.mk hfin
      clear hfin
      go_wp2
      go_ret
      exact ⟨_, rfl, by rw [HF.out]; rfl, BW.out⟩
set_option maxHeartbeats 400000 in
theorem impl_isPlan.contains (pr : List Int → Bool) (g : Nat) (lb : Array Value) (eg : ∀ args w, (callFunc g args).run Try.prog w = .ok (.enter g args) w) (A : Option Addr) (c : Nat) (l0 : List (List Int)) (w : World)
    (hr : Kd.C (Kd.slice 3 (Kd.int .i64)) w A l0.length l0)
    (hp : ∀ (W : World) (A' : Option Addr) (c' : Nat) (l : List Int), Below w.heap.size w W → Kd.C (Kd.int .i64) W A' l.length l → l.length ≤ c' → l ∈ l0 → Calls Try.prog g (#[.slice A' l.length c'] ++ lb) W fun e w' => e = .returned (.bool (pr l)) ∧ Below W.heap.size W w') :
    Calls Try.prog 204 #[.slice A l0.length c, .func (.func g) #[] lb] w fun e w' => e = .returned (.bool (l0.any pr)) ∧ Below w.heap.size w w' := by
  have hi := impl_isPlan.index pr g lb eg A c l0 w hr hp
  clear hr hp
  go_enter Try.func204, Try.ntmps204
  go_wp2_with (go_at_call 224; refine hi.mono ?_; rintro e w' ⟨r, rfl, hr, hb⟩)
  have HR := Aside0.mk hr
  clear hr
  go_ret
  exact ⟨by rw [← HR.out]; rfl, hb⟩
set_option maxHeartbeats 400000 in
set_option maxRecDepth 100000 in
theorem impl_isPlan.calls (A0 : Option Addr) (c0 : Nat) (l0 : List (List Int)) (r : Bool) (w : World) (hr0 : Kd.C (Kd.slice 3 (Kd.int .i64)) w A0 l0.length l0) (hc0 : l0.length ≤ c0) (h : impl_isPlan.f l0 = some r) :
    Calls Try.prog 118 #[.slice A0 l0.length c0] w fun e w' => e = .returned (.bool r) ∧ Below w.heap.size w w' := by
  obtain rfl := Option.some.inj h
  clear h
  have hmf : ∀ (fn : Fn) (first cap : Array Value) (w : World), (Instr.makeFunc fn first cap).run Try.prog w = .ok (.func fn first cap) w := fun _ _ _ _ => rfl
  have HR := Aside0.mk hr0
  have HC := Aside0.mk hc0
  clear hr0 hc0
  by_cases h8 : l0.length ≤ 8
  · by_cases h1 : 1 ≤ l0.length
    · have hw : impl_within.f (l0.length : Int) 1 8 = some true := by unfold impl_within.f; rw [if_pos (by omega), decide_eq_true (by omega)]
      have HW := Aside0.mk hw
      have hany : l0.any (fun l => !impl_isPlan.p l0.length l) = !(l0.all (impl_isPlan.p l0.length)) := by rw [List.not_all_eq_any_not]
      have HA := Aside0.mk hany
      have hcell : (w.alloc (.cells #[.slice A0 l0.length c0] 37)).cell? ⟨w.heap.size, 0, none⟩ = some (.slice A0 l0.length c0) := by rw [World.cell?_alloc_at _ _ _ _ rfl]; rfl
      have hlt : w.heap.size < (w.alloc (.cells #[.slice A0 l0.length c0] 37)).heap.size := by simp
      have hcon := fun (n : Nat) => impl_isPlan.contains (fun l => !impl_isPlan.p l0.length l) 205 #[.pointer (some ⟨w.heap.size, 0, none⟩)] (enters_of Try.func205 (by kernel_rfl) rfl) A0 c0 l0 ((w.alloc (.cells #[.slice A0 l0.length c0] 37)).drewN n) (Kd.C_drewN (Kd.C_alloc HR.out _) n)
        (fun W A' c' l hb hl hc hm => by
          have hmx := Kd.C_max hl
          refine (impl_isPlan.closure A' c' l w.heap.size l0.length c0 A0 W hl hc ?_ ?_).mono ?_
          · exact hmx
          · exact (hb.cell (p := ⟨w.heap.size, 0, none⟩) hlt).trans hcell
          · rintro e w' ⟨rfl, hd⟩
            exact ⟨rfl, hd.below⟩)
      have HCON := Aside0.mk hcon
      clear hcon hw hany hcell hlt
      have hd1 : decide (1 ≤ l0.length) = true := decide_eq_true h1
      have hd8 : decide (l0.length ≤ 8) = true := decide_eq_true h8
      rw [hd1, hd8, Bool.true_and, Bool.true_and]
      clear hd1 hd8
      go_enter Try.func118, Try.ntmps118
      go_wp2_with (first | (go_at_call 173; refine (impl_within.calls _ _ _ _ _ HW.out).mono ?_; rintro e w' ⟨rfl, ⟨nd, rfl⟩⟩) | (go_at_call 204; refine (HCON.out _).mono ?_; rintro e w' ⟨rfl, hb⟩))
      go_ret
      exact ⟨by show Ending.returned (Value.bool (!l0.any fun l => !impl_isPlan.p l0.length l)) = _; rw [HA.out, Bool.not_not], below_step (pw_below_drewN (below_alloc (Below.refl _ _) _) _) hb⟩
    · have hw : impl_within.f (l0.length : Int) 1 8 = some false := by unfold impl_within.f; rw [if_neg (by omega)]
      have HW := Aside0.mk hw
      clear hw
      have hd1 : decide (1 ≤ l0.length) = false := decide_eq_false h1
      rw [hd1, Bool.false_and, Bool.false_and]
      clear hd1
      go_enter Try.func118, Try.ntmps118
      go_wp2_with (go_at_call 173; refine (impl_within.calls _ _ _ _ _ HW.out).mono ?_; rintro e w' ⟨rfl, ⟨nd, rfl⟩⟩)
      go_ret
      exact ⟨rfl, pw_below_drewN (below_alloc (Below.refl _ _) _) _⟩
  · have hw : impl_within.f (l0.length : Int) 1 8 = some false := by unfold impl_within.f; rw [if_pos (by omega), decide_eq_false (by omega)]
    have HW := Aside0.mk hw
    clear hw
    have hd1 : decide (l0.length ≤ 8) = false := decide_eq_false h8
    rw [hd1, Bool.and_false, Bool.false_and]
    clear hd1
    go_enter Try.func118, Try.ntmps118
    go_wp2_with (go_at_call 173; refine (impl_within.calls _ _ _ _ _ HW.out).mono ?_; rintro e w' ⟨rfl, ⟨nd, rfl⟩⟩)
    go_ret
    exact ⟨rfl, pw_below_drewN (below_alloc (Below.refl _ _) _) _⟩

end Go.Proofs.Ytllnieknogficaa.K
namespace Go.Proofs.Ytllnieknogficaa.K
open Go.RowKit Go.Proofs.YtllnieknogficaaW.PrintWords Go.Proofs.YtllnieknogficaaW.PrintLast Go.Proofs.YtllnieknogficaaW.PrintMore
attribute [local go_sem] max2_int min2_int max_two min_two max_three min_three max_four min_four   -- for this text's walks alone
set_option linter.unusedVariables false
set_option linter.unusedSimpArgs false

/-! ### spec_l1In: function 195 -/
def spec_l1In.f (a0 : Int) (a1 : Int) (a2 : Int) : Option (Bool) := if a0 ≥ a1 then (some (decide (a0 ≤ a2))) else (some false)
set_option maxHeartbeats 8000000 in
set_option maxRecDepth 100000 in
theorem spec_l1In.calls (a0 : Int) (a1 : Int) (a2 : Int) (r : Bool) (w : World) (h : spec_l1In.f a0 a1 a2 = some r) :
    Calls Try.prog 195 #[.int .i64 a0, .int .i64 a1, .int .i64 a2] w fun e w' => e = .returned (.bool r) ∧ Drawn0 w w' := by
  have H : (if a0 ≥ a1 then (some (decide (a0 ≤ a2))) else (some false)) = some r := h
  clear h
  by_cases c4 : a0 ≥ a1
  · rw [if_pos c4] at H
    have c4b0 : decide (a1 ≤ a0) = true := decide_eq_true c4
    clear c4
    obtain rfl := Option.some.inj H
    go_enter Try.func195, Try.ntmps195
    go_wp2
    go_ret
    exact ⟨by first | rfl | (simp; done) | (simp [*]; done), by repeat (first | exact Drawn0.refl _ | apply Drawn0.step)⟩
  · rw [if_neg c4] at H
    have c4b0 : decide (a1 ≤ a0) = false := decide_eq_false c4
    clear c4
    obtain rfl := Option.some.inj H
    go_enter Try.func195, Try.ntmps195
    go_wp2
    go_ret
    exact ⟨by first | rfl | (simp; done) | (simp [*]; done), by repeat (first | exact Drawn0.refl _ | apply Drawn0.step)⟩

end Go.Proofs.Ytllnieknogficaa.K
namespace Go.Proofs.Ytllnieknogficaa.K
open Go.RowKit Go.Proofs.YtllnieknogficaaW.PrintWords Go.Proofs.YtllnieknogficaaW.PrintLast Go.Proofs.YtllnieknogficaaW.PrintMore
attribute [local go_sem] max2_int min2_int max_two min_two max_three min_three max_four min_four   -- for this text's walks alone
set_option linter.unusedVariables false
set_option linter.unusedSimpArgs false

/-! ### spec_l1All: function 196 -/
def spec_l1All.l0 : Nat → Int → Int → List Int → Int → Int → Option (Bool)
  | 0, _, _, _, _, _ => none
  | k + 1, x1, x2, x9, x10, x11 => if x11 < x10 then (if 0 ≤ x11 then (if x11 < (x9.length : Int) then ((spec_l1In.f (rd x9 x11) x1 x2).bind fun t227 => (if t227 = true then (spec_l1All.l0 k x1 x2 x9 x10 (wrap64 (x11 + 1))) else (some false))) else (none)) else (none)) else (some true)
def spec_l1All.f (k : Nat) (l0 : List Int) (a1 : Int) (a2 : Int) : Option (Bool) := spec_l1All.l0 k a1 a2 l0 (l0.length : Int) 0
theorem spec_l1All.mono_l : ∀ k, (∀ y0 y1 y2 y3 y4, LeO (spec_l1All.l0 k y0 y1 y2 y3 y4) (spec_l1All.l0 (k + 1) y0 y1 y2 y3 y4))
  | 0 => fun _ _ _ _ _ r h => by simp [spec_l1All.l0] at h
  | k + 1 => by
    have ih0 := spec_l1All.mono_l k
    · intro y0 y1 y2 y3 y4
      unfold spec_l1All.l0
      repeat' first
      | (with_reducible exact ih0 _ _ _ _ _)
      | (with_reducible exact LeO.refl _)
      | (with_reducible exact LeO.none _)
      | (with_reducible refine LeO.ite ?_ ?_)
      | (with_reducible refine LeO.bind ?_ (fun _ => ?_))
      | exact ih0 _ _ _ _ _
      | exact LeO.none _
      | refine LeO.ite ?_ ?_
      | refine LeO.bind ?_ (fun _ => ?_)
theorem spec_l1All.mono : ∀ a0 a1 a2 k, LeO (spec_l1All.f k a0 a1 a2) (spec_l1All.f (k + 1) a0 a1 a2) := by
  intro a0 a1 a2 k
  have ih0 := spec_l1All.mono_l k
  unfold spec_l1All.f
  repeat' first
      | (with_reducible exact ih0 _ _ _ _ _)
      | (with_reducible exact LeO.refl _)
      | (with_reducible exact LeO.none _)
      | (with_reducible refine LeO.ite ?_ ?_)
      | (with_reducible refine LeO.bind ?_ (fun _ => ?_))
      | exact ih0 _ _ _ _ _
      | exact LeO.none _
      | refine LeO.ite ?_ ?_
      | refine LeO.bind ?_ (fun _ => ?_)
set_option maxHeartbeats 8000000 in
set_option maxRecDepth 100000 in
theorem spec_l1All.calls (k : Nat) (A0 : Option Addr) (c0 : Nat) (l0 : List Int) (a1 : Int) (a2 : Int) (r : Bool) (w : World) (hr0 : Kd.C (Kd.int .i64) w A0 l0.length l0) (hc0 : l0.length ≤ c0) (h : spec_l1All.f k l0 a1 a2 = some r) :
    Calls Try.prog 196 #[.slice A0 l0.length c0, .int .i64 a1, .int .i64 a2] w fun e w' => e = .returned (.bool r) ∧ Drawn0 w w' := by
  have HR0 := Aside0.mk hr0
  have HC0 := Aside0.mk hc0
  clear hr0 hc0
  have H : (spec_l1All.l0 k a1 a2 l0 (l0.length : Int) 0) = some r := h
  clear h
  have H' := Aside0.mk H
  clear H
  go_enter Try.func196, Try.ntmps196
  go_wp2
  go_loopg [11] k (fun kq v11 w' => ∃ (x11_1 : Int), v11 = .int .i64 x11_1 ∧ Aside0 (spec_l1All.l0 kq a1 a2 l0 (l0.length : Int) x11_1 = some r) ∧ Aside0 (kq ≤ k) ∧ Drawn0 w w')
  case atStart => exact ⟨(0), (by first | rfl | (simp; done) | (simp [*]; done)), H', ⟨Nat.le_refl _⟩, by repeat (first | exact Drawn0.refl _ | apply Drawn0.step)⟩
  case round =>
    clear H'
    try clear c1
    try clear p2
    obtain ⟨x11_1, rfl, HA, HK1, ⟨m1, rfl⟩⟩ := hrel
    cases gk with
    | zero => exact absurd HA.out (by simp [spec_l1All.l0])
    | succ k1 =>
      have H := HA.out
      clear HA
      simp only [spec_l1All.l0] at H
      by_cases c4 : x11_1 < (l0.length : Int)
      · rw [if_pos c4] at H
        have c4b0 : decide (x11_1 < (l0.length : Int)) = true := decide_eq_true c4
        clear c4
        by_cases c5 : 0 ≤ x11_1
        · rw [if_pos c5] at H
          have c5b0 : decide (0 ≤ x11_1) = true := decide_eq_true c5
          clear c5
          by_cases c6 : x11_1 < (l0.length : Int)
          · rw [if_pos c6] at H
            have c6b0 : decide (x11_1 < (l0.length : Int)) = true := decide_eq_true c6
            clear c6
            replace H := Option.bind_eq_some_iff.mp H
            obtain ⟨t227, A70, H⟩ := H
            replace H : (if t227 = true then (spec_l1All.l0 k1 a1 a2 l0 (l0.length : Int) (wrap64 (x11_1 + 1))) else (some false)) = some r := H
            have A7 := Aside0.mk A70
            clear A70
            by_cases c8 : t227 = true
            · subst c8
              have H1 : (spec_l1All.l0 k1 a1 a2 l0 (l0.length : Int) (wrap64 (x11_1 + 1))) = some r := by rw [if_pos rfl] at H; exact H
              clear H
              have H := H1
              clear H1
              have H' := Aside0.mk H
              clear H
              have p226 : 0 ≤ (x11_1 : Int) := of_decide_eq_true (by first | (with_reducible assumption) | assumption)
              have q226 : x11_1 < (l0.length : Int) := of_decide_eq_true (by first | (with_reducible assumption) | assumption)
              obtain ⟨ad226, e226, hx226_0⟩ := Kd.at_int HR0.out x11_1 p226 q226
              cases e226
              replace p226 := eq_true p226
              replace q226 := eq_true q226
              go_wp2_with (first | ((with_reducible refine gate_callee (f := 195) rfl ?_); refine goesL_ (some 18) rfl rfl Try.func195 (by kernel_rfl) rfl #[.int .i64 (rd l0 x11_1), .int .i64 a1, .int .i64 a2] rfl (by (try simp only [List.map_toArray, List.map_cons, List.map_nil]); first | done | rfl | (simp only [List.length_drop, List.length_take]; rfl)) ?_; (with_reducible refine (spec_l1In.calls (rd l0 x11_1) a1 a2 true _ A7.out).mono ?_); rintro e w' ⟨rfl, ⟨nd, rfl⟩⟩; refine ⟨_, rfl, ?_⟩))
              go_roundg k1
              case measure => have := HK1.out; omega
              case rel => exact ⟨(wrap64 (x11_1 + 1)), (by first | rfl | (simp; done) | (simp [*]; done)), H', ⟨by have := HK1.out; omega⟩, by repeat (first | exact Drawn0.refl _ | apply Drawn0.step)⟩
            · replace c8 := Bool.eq_false_iff.mpr c8
              subst c8
              have H1 : (some false) = some r := by rw [if_neg (show ¬ (false = true) by decide)] at H; exact H
              clear H
              have H := H1
              clear H1
              obtain rfl := Option.some.inj H
              have p226 : 0 ≤ (x11_1 : Int) := of_decide_eq_true (by first | (with_reducible assumption) | assumption)
              have q226 : x11_1 < (l0.length : Int) := of_decide_eq_true (by first | (with_reducible assumption) | assumption)
              obtain ⟨ad226, e226, hx226_0⟩ := Kd.at_int HR0.out x11_1 p226 q226
              cases e226
              replace p226 := eq_true p226
              replace q226 := eq_true q226
              go_wp2_with (first | ((with_reducible refine gate_callee (f := 195) rfl ?_); refine goesL_ (some 18) rfl rfl Try.func195 (by kernel_rfl) rfl #[.int .i64 (rd l0 x11_1), .int .i64 a1, .int .i64 a2] rfl (by (try simp only [List.map_toArray, List.map_cons, List.map_nil]); first | done | rfl | (simp only [List.length_drop, List.length_take]; rfl)) ?_; (with_reducible refine (spec_l1In.calls (rd l0 x11_1) a1 a2 false _ A7.out).mono ?_); rintro e w' ⟨rfl, ⟨nd, rfl⟩⟩; refine ⟨_, rfl, ?_⟩))
              go_ret
              exact ⟨by first | rfl | (simp; done) | (simp [*]; done), by repeat (first | exact Drawn0.refl _ | apply Drawn0.step)⟩
          · rw [if_neg c6] at H
            exact absurd H (by simp)
        · rw [if_neg c5] at H
          exact absurd H (by simp)
      · rw [if_neg c4] at H
        have c4b0 : decide (x11_1 < (l0.length : Int)) = false := decide_eq_false c4
        clear c4
        obtain rfl := Option.some.inj H
        go_wp2
        go_ret
        exact ⟨by first | rfl | (simp; done) | (simp [*]; done), by repeat (first | exact Drawn0.refl _ | apply Drawn0.step)⟩

end Go.Proofs.Ytllnieknogficaa.K
namespace Go.Proofs.Ytllnieknogficaa.K
open Go.RowKit Go.Proofs.YtllnieknogficaaW.PrintWords Go.Proofs.YtllnieknogficaaW.PrintLast Go.Proofs.YtllnieknogficaaW.PrintMore
attribute [local go_sem] max2_int min2_int max_two min_two max_three min_three max_four min_four   -- for this text's walks alone
set_option linter.unusedVariables false
set_option linter.unusedSimpArgs false

/-! ### spec_plGood: function 125 -/
def spec_plGood.l0 : Nat → List (List Int) → List (List Int) → Int → Int → Option (Bool)
  | 0, _, _, _, _ => none
  | k + 1, x0, x9, x10, x11 => if x11 < x10 then (if 0 ≤ x11 then (if x11 < (x9.length : Int) then (if ((rd_L2 x9 x11).length : Int) = (x0.length : Int) then ((spec_l1All.f k (rd_L2 x9 x11) 0 60).bind fun t384 => (if t384 = true then (spec_plGood.l0 k x0 x9 x10 (wrap64 (x11 + 1))) else (some false))) else (some false)) else (none)) else (none)) else (some true)
def spec_plGood.f (k : Nat) (l0 : List (List Int)) : Option (Bool) := (spec_l1In.f (l0.length : Int) 1 8).bind fun t382 => (if t382 = true then (spec_plGood.l0 k l0 l0 (l0.length : Int) 0) else (some false))
theorem spec_plGood.mono_l : ∀ k, (∀ y0 y1 y2 y3, LeO (spec_plGood.l0 k y0 y1 y2 y3) (spec_plGood.l0 (k + 1) y0 y1 y2 y3))
  | 0 => fun _ _ _ _ r h => by simp [spec_plGood.l0] at h
  | k + 1 => by
    have ih0 := spec_plGood.mono_l k
    · intro y0 y1 y2 y3
      unfold spec_plGood.l0
      repeat' first
      | (with_reducible exact ih0 _ _ _ _)
      | (with_reducible exact spec_l1All.mono _ _ _ _)
      | (with_reducible exact LeO.refl _)
      | (with_reducible exact LeO.none _)
      | (with_reducible refine LeO.ite ?_ ?_)
      | (with_reducible refine LeO.bind ?_ (fun _ => ?_))
      | exact ih0 _ _ _ _
      | exact spec_l1All.mono _ _ _ _
      | exact LeO.none _
      | refine LeO.ite ?_ ?_
      | refine LeO.bind ?_ (fun _ => ?_)
theorem spec_plGood.mono : ∀ a0 k, LeO (spec_plGood.f k a0) (spec_plGood.f (k + 1) a0) := by
  intro a0 k
  have ih0 := spec_plGood.mono_l k
  unfold spec_plGood.f
  repeat' first
      | (with_reducible exact ih0 _ _ _ _)
      | (with_reducible exact spec_l1All.mono _ _ _ _)
      | (with_reducible exact LeO.refl _)
      | (with_reducible exact LeO.none _)
      | (with_reducible refine LeO.ite ?_ ?_)
      | (with_reducible refine LeO.bind ?_ (fun _ => ?_))
      | exact ih0 _ _ _ _
      | exact spec_l1All.mono _ _ _ _
      | exact LeO.none _
      | refine LeO.ite ?_ ?_
      | refine LeO.bind ?_ (fun _ => ?_)
set_option maxHeartbeats 8000000 in
set_option maxRecDepth 100000 in
theorem spec_plGood.calls (k : Nat) (A0 : Option Addr) (c0 : Nat) (l0 : List (List Int)) (r : Bool) (w : World) (hr0 : Kd.C (Kd.slice 3 (Kd.int .i64)) w A0 l0.length l0) (hc0 : l0.length ≤ c0) (h : spec_plGood.f k l0 = some r) :
    Calls Try.prog 125 #[.slice A0 l0.length c0] w fun e w' => e = .returned (.bool r) ∧ Drawn0 w w' := by
  have HR0 := Aside0.mk hr0
  have HC0 := Aside0.mk hc0
  clear hr0 hc0
  have H : ((spec_l1In.f (l0.length : Int) 1 8).bind fun t382 => (if t382 = true then (spec_plGood.l0 k l0 l0 (l0.length : Int) 0) else (some false))) = some r := h
  clear h
  replace H := Option.bind_eq_some_iff.mp H
  obtain ⟨t382, A20, H⟩ := H
  replace H : (if t382 = true then (spec_plGood.l0 k l0 l0 (l0.length : Int) 0) else (some false)) = some r := H
  have A2 := Aside0.mk A20
  clear A20
  by_cases c3 : t382 = true
  · subst c3
    have H1 : (spec_plGood.l0 k l0 l0 (l0.length : Int) 0) = some r := by rw [if_pos rfl] at H; exact H
    clear H
    have H := H1
    clear H1
    have H' := Aside0.mk H
    clear H
    go_enter Try.func125, Try.ntmps125
    go_wp2_with (first | ((with_reducible refine gate_callee (f := 195) rfl ?_); refine goesL_ (some 7) rfl rfl Try.func195 (by kernel_rfl) rfl #[.int .i64 (l0.length : Int), .int .i64 1, .int .i64 8] rfl (by (try simp only [List.map_toArray, List.map_cons, List.map_nil]); first | done | rfl | (simp only [List.length_drop, List.length_take]; rfl)) ?_; (with_reducible refine (spec_l1In.calls (l0.length : Int) 1 8 true _ A2.out).mono ?_); rintro e w' ⟨rfl, ⟨nd, rfl⟩⟩; refine ⟨_, rfl, ?_⟩))
    go_loopg [11] k (fun kq v11 w' => ∃ (x11_1 : Int), v11 = .int .i64 x11_1 ∧ Aside0 (spec_plGood.l0 kq l0 l0 (l0.length : Int) x11_1 = some r) ∧ Aside0 (kq ≤ k) ∧ Drawn0 w w')
    case atStart => exact ⟨(0), (by first | rfl | (simp; done) | (simp [*]; done)), H', ⟨Nat.le_refl _⟩, by repeat (first | exact Drawn0.refl _ | apply Drawn0.step)⟩
    case round =>
      clear H'
      try clear c1
      try clear p2
      try clear c3
      obtain ⟨x11_1, rfl, HA, HK1, ⟨m1, rfl⟩⟩ := hrel
      cases gk with
      | zero => exact absurd HA.out (by simp [spec_plGood.l0])
      | succ k1 =>
        have H := HA.out
        clear HA
        simp only [spec_plGood.l0] at H
        by_cases c4 : x11_1 < (l0.length : Int)
        · rw [if_pos c4] at H
          have c4b0 : decide (x11_1 < (l0.length : Int)) = true := decide_eq_true c4
          clear c4
          by_cases c5 : 0 ≤ x11_1
          · rw [if_pos c5] at H
            have c5b0 : decide (0 ≤ x11_1) = true := decide_eq_true c5
            clear c5
            by_cases c6 : x11_1 < (l0.length : Int)
            · rw [if_pos c6] at H
              have c6b0 : decide (x11_1 < (l0.length : Int)) = true := decide_eq_true c6
              clear c6
              by_cases c7 : ((rd_L2 l0 x11_1).length : Int) = (l0.length : Int)
              · rw [if_pos c7] at H
                have c7b0 : (((rd_L2 l0 x11_1).length : Int) == (l0.length : Int)) = true := beq_iff_eq.mpr c7
                have c7b1 : (((rd_L2 l0 x11_1).length : Int) != (l0.length : Int)) = false := bne_eq_false_iff_eq.mpr c7
                have c7b2 : ((rd_L2 l0 x11_1).length == l0.length) = true := by first | simpa using c7 | (simp at c7 ⊢; omega)
                clear c7
                replace H := Option.bind_eq_some_iff.mp H
                obtain ⟨t384, A80, H⟩ := H
                replace H : (if t384 = true then (spec_plGood.l0 k1 l0 l0 (l0.length : Int) (wrap64 (x11_1 + 1))) else (some false)) = some r := H
                have A8 := Aside0.mk A80
                clear A80
                by_cases c9 : t384 = true
                · subst c9
                  have H1 : (spec_plGood.l0 k1 l0 l0 (l0.length : Int) (wrap64 (x11_1 + 1))) = some r := by rw [if_pos rfl] at H; exact H
                  clear H
                  have H := H1
                  clear H1
                  have H' := Aside0.mk H
                  clear H
                  have p383 : 0 ≤ (x11_1 : Int) := of_decide_eq_true (by first | (with_reducible assumption) | assumption)
                  have q383 : x11_1 < (l0.length : Int) := of_decide_eq_true (by first | (with_reducible assumption) | assumption)
                  obtain ⟨ad383, A383_0, c383_0, e383, hx383_0, hl383_0, hi383_0⟩ := at_L2 HR0.out x11_1 p383 q383
                  cases e383
                  have HR383_0 := Aside0.mk hi383_0
                  have HC383_0 := Aside0.mk hl383_0
                  clear hi383_0 hl383_0
                  replace p383 := eq_true p383
                  replace q383 := eq_true q383
                  go_wp2_with (first | (go_at_call 196; (with_reducible refine (spec_l1All.calls k1 _ _ (rd_L2 l0 x11_1) 0 60 true _ ?side1 ?side2 A8.out).mono ?_); (case side1 => repeat (first | exact HR383_0.out | (with_reducible refine Kd.C_alloc ?_ _) | (with_reducible refine Kd.C_drewN ?_ _) | (with_reducible refine Kd.C_drew ?_))); (case side2 => exact HC383_0.out); rintro e w' ⟨rfl, ⟨nd, rfl⟩⟩))
                  go_roundg k1
                  case measure => have := HK1.out; omega
                  case rel => exact ⟨(wrap64 (x11_1 + 1)), (by first | rfl | (simp; done) | (simp [*]; done)), H', ⟨by have := HK1.out; omega⟩, by repeat (first | exact Drawn0.refl _ | apply Drawn0.step)⟩
                · replace c9 := Bool.eq_false_iff.mpr c9
                  subst c9
                  have H1 : (some false) = some r := by rw [if_neg (show ¬ (false = true) by decide)] at H; exact H
                  clear H
                  have H := H1
                  clear H1
                  obtain rfl := Option.some.inj H
                  have p383 : 0 ≤ (x11_1 : Int) := of_decide_eq_true (by first | (with_reducible assumption) | assumption)
                  have q383 : x11_1 < (l0.length : Int) := of_decide_eq_true (by first | (with_reducible assumption) | assumption)
                  obtain ⟨ad383, A383_0, c383_0, e383, hx383_0, hl383_0, hi383_0⟩ := at_L2 HR0.out x11_1 p383 q383
                  cases e383
                  have HR383_0 := Aside0.mk hi383_0
                  have HC383_0 := Aside0.mk hl383_0
                  clear hi383_0 hl383_0
                  replace p383 := eq_true p383
                  replace q383 := eq_true q383
                  go_wp2_with (first | (go_at_call 196; (with_reducible refine (spec_l1All.calls k1 _ _ (rd_L2 l0 x11_1) 0 60 false _ ?side1 ?side2 A8.out).mono ?_); (case side1 => repeat (first | exact HR383_0.out | (with_reducible refine Kd.C_alloc ?_ _) | (with_reducible refine Kd.C_drewN ?_ _) | (with_reducible refine Kd.C_drew ?_))); (case side2 => exact HC383_0.out); rintro e w' ⟨rfl, ⟨nd, rfl⟩⟩))
                  go_ret
                  exact ⟨by first | rfl | (simp; done) | (simp [*]; done), by repeat (first | exact Drawn0.refl _ | apply Drawn0.step)⟩
              · rw [if_neg c7] at H
                have c7b0 : (((rd_L2 l0 x11_1).length : Int) == (l0.length : Int)) = false := beq_eq_false_iff_ne.mpr c7
                have c7b1 : (((rd_L2 l0 x11_1).length : Int) != (l0.length : Int)) = true := bne_iff_ne.mpr c7
                have c7b2 : ((rd_L2 l0 x11_1).length == l0.length) = false := by first | simpa using c7 | (simp at c7 ⊢; omega)
                obtain rfl := Option.some.inj H
                have p383 : 0 ≤ (x11_1 : Int) := of_decide_eq_true (by first | (with_reducible assumption) | assumption)
                have q383 : x11_1 < (l0.length : Int) := of_decide_eq_true (by first | (with_reducible assumption) | assumption)
                obtain ⟨ad383, A383_0, c383_0, e383, hx383_0, hl383_0, hi383_0⟩ := at_L2 HR0.out x11_1 p383 q383
                cases e383
                have HR383_0 := Aside0.mk hi383_0
                have HC383_0 := Aside0.mk hl383_0
                clear hi383_0 hl383_0
                replace p383 := eq_true p383
                replace q383 := eq_true q383
                go_wp2
                go_ret
                exact ⟨by first | rfl | (simp; done) | (simp [*]; done), by repeat (first | exact Drawn0.refl _ | apply Drawn0.step)⟩
            · rw [if_neg c6] at H
              exact absurd H (by simp)
          · rw [if_neg c5] at H
            exact absurd H (by simp)
        · rw [if_neg c4] at H
          have c4b0 : decide (x11_1 < (l0.length : Int)) = false := decide_eq_false c4
          clear c4
          obtain rfl := Option.some.inj H
          go_wp2
          go_ret
          exact ⟨by first | rfl | (simp; done) | (simp [*]; done), by repeat (first | exact Drawn0.refl _ | apply Drawn0.step)⟩
  · replace c3 := Bool.eq_false_iff.mpr c3
    subst c3
    have H1 : (some false) = some r := by rw [if_neg (show ¬ (false = true) by decide)] at H; exact H
    clear H
    have H := H1
    clear H1
    obtain rfl := Option.some.inj H
    go_enter Try.func125, Try.ntmps125
    go_wp2_with (first | ((with_reducible refine gate_callee (f := 195) rfl ?_); refine goesL_ (some 7) rfl rfl Try.func195 (by kernel_rfl) rfl #[.int .i64 (l0.length : Int), .int .i64 1, .int .i64 8] rfl (by (try simp only [List.map_toArray, List.map_cons, List.map_nil]); first | done | rfl | (simp only [List.length_drop, List.length_take]; rfl)) ?_; (with_reducible refine (spec_l1In.calls (l0.length : Int) 1 8 false _ A2.out).mono ?_); rintro e w' ⟨rfl, ⟨nd, rfl⟩⟩; refine ⟨_, rfl, ?_⟩))
    go_ret
    exact ⟨by first | rfl | (simp; done) | (simp [*]; done), by repeat (first | exact Drawn0.refl _ | apply Drawn0.step)⟩

end Go.Proofs.Ytllnieknogficaa.K
namespace Go.Proofs.Ytllnieknogficaa.K
open Go.RowKit Go.Proofs.YtllnieknogficaaW.PrintWords Go.Proofs.YtllnieknogficaaW.PrintLast Go.Proofs.YtllnieknogficaaW.PrintMore
attribute [local go_sem] max2_int min2_int max_two min_two max_three min_three max_four min_four   -- for this text's walks alone
set_option linter.unusedVariables false
set_option linter.unusedSimpArgs false
/-- A plan: from 1 to 8 rows, each with as many numbers from 0 to 60. -/
def planB (l : List (List Int)) : Bool := decide (1 ≤ l.length) && decide (l.length ≤ 8) && l.all (impl_isPlan.p l.length)
theorem isPlan_f (l : List (List Int)) : impl_isPlan.f l = some (planB l) := rfl
theorem planB_iff (l : List (List Int)) : planB l = true ↔ 1 ≤ l.length ∧ l.length ≤ 8 ∧ ∀ r ∈ l, r.length = l.length ∧ ∀ x ∈ r, 0 ≤ x ∧ x ≤ 60 := by
  simp [planB, impl_isPlan.p, List.all_eq_true, and_assoc]
theorem l1All_l0 (l : List Int) (a b : Int) (hl : l.length ≤ 4611686018427387904) : ∀ d (i : Nat), i ≤ l.length → l.length - i = d →
    Ev (fun k => spec_l1All.l0 k a b l (l.length : Int) (i : Int)) ((l.drop i).all fun x => decide (a ≤ x) && decide (x ≤ b)) := by
  intro d
  induction d with
  | zero =>
    intro i hi hd
    have : i = l.length := by omega
    subst this
    refine ev_succ ?_
    simp only [spec_l1All.l0, if_neg (Int.lt_irrefl _), List.drop_length]
    exact ev_now _ _ rfl
  | succ d ih =>
    intro i hi hd
    have hlt : i < l.length := by omega
    have h1 : (i : Int) < (l.length : Int) := by omega
    have h2 : (0 : Int) ≤ (i : Int) := by omega
    refine ev_succ ?_
    simp only [spec_l1All.l0, if_pos h1, if_pos h2, rd_nat l i hlt, wrap64_nat_succ (show i < 9223372036854775807 by omega)]
    rw [List.drop_eq_getElem_cons hlt, List.all_cons]
    unfold spec_l1In.f
    by_cases h3 : a ≤ l[i]
    · by_cases h4 : l[i] ≤ b
      · simp only [ge_iff_le, if_pos h3, decide_eq_true h3, decide_eq_true h4, Option.bind_some, if_true, Bool.and_self, Bool.true_and]
        exact ih (i + 1) (by omega) (by omega)
      · simp only [ge_iff_le, if_pos h3, decide_eq_false h4, Option.bind_some, Bool.and_false, Bool.false_and]
        exact ev_now _ _ rfl
    · simp only [ge_iff_le, if_neg h3, decide_eq_false h3, Option.bind_some, Bool.false_and]
      exact ev_now _ _ rfl
theorem l1All_ev (l : List Int) (a b : Int) (hl : l.length ≤ 4611686018427387904) : Ev (fun k => spec_l1All.f k l a b) (l.all fun x => decide (a ≤ x) && decide (x ≤ b)) := by
  unfold spec_l1All.f
  have := l1All_l0 l a b hl l.length 0 (by omega) (by omega)
  simpa using this
theorem plGood_l0 (l : List (List Int)) (hl : l.length ≤ 8) : ∀ d (i : Nat), i ≤ l.length → l.length - i = d →
    Ev (fun k => spec_plGood.l0 k l l (l.length : Int) (i : Int)) ((l.drop i).all (impl_isPlan.p l.length)) := by
  intro d
  induction d with
  | zero =>
    intro i hi hd
    have : i = l.length := by omega
    subst this
    refine ev_succ ?_
    simp only [spec_plGood.l0, if_neg (Int.lt_irrefl _), List.drop_length]
    exact ev_now _ _ rfl
  | succ d ih =>
    intro i hi hd
    have hlt : i < l.length := by omega
    have h1 : (i : Int) < (l.length : Int) := by omega
    have h2 : (0 : Int) ≤ (i : Int) := by omega
    refine ev_succ ?_
    simp only [spec_plGood.l0, if_pos h1, if_pos h2, rdL_nat l i hlt, wrap64_nat_succ (show i < 9223372036854775807 by omega)]
    rw [List.drop_eq_getElem_cons hlt, List.all_cons]
    by_cases h3 : l[i].length = l.length
    · have h4 : ((l[i].length : Nat) : Int) = (l.length : Int) := by omega
      have hp : impl_isPlan.p l.length l[i] = l[i].all fun x => decide (0 ≤ x) && decide (x ≤ 60) := by simp [impl_isPlan.p, h3]
      simp only [if_pos h4]
      refine Ev.bind (l1All_ev l[i] 0 60 (by omega)) ?_
      rw [hp]
      cases hq : l[i].all fun x => decide (0 ≤ x) && decide (x ≤ 60) with
      | true => simp only [if_true, Bool.true_and]; exact ih (i + 1) (by omega) (by omega)
      | false => exact ev_now _ _ rfl
    · have h4 : ¬ (((l[i].length : Nat) : Int) = (l.length : Int)) := by omega
      have hp : impl_isPlan.p l.length l[i] = false := by simp [impl_isPlan.p, h3]
      simp only [if_neg h4, hp, Bool.false_and]
      exact ev_now _ _ rfl
theorem plGood_ev (l : List (List Int)) : Ev (fun k => spec_plGood.f k l) (planB l) := by
  unfold spec_plGood.f spec_l1In.f planB
  by_cases h1 : 1 ≤ l.length
  · have h1' : (l.length : Int) ≥ 1 := by omega
    by_cases h2 : l.length ≤ 8
    · have h2' : (l.length : Int) ≤ 8 := by omega
      simp only [if_pos h1', decide_eq_true h2', Option.bind_some, if_true, decide_eq_true h1, decide_eq_true h2, Bool.true_and]
      have := plGood_l0 l h2 l.length 0 (by omega) (by omega)
      simpa using this
    · have h2' : ¬ (l.length : Int) ≤ 8 := by omega
      simp only [if_pos h1', decide_eq_false h2', Option.bind_some, decide_eq_false h2, Bool.and_false, Bool.false_and]
      exact ev_now _ _ rfl
  · have h1' : ¬ (l.length : Int) ≥ 1 := by omega
    simp only [if_neg h1', Option.bind_some, decide_eq_false h1, Bool.false_and]
    exact ev_now _ _ rfl
/-! ### rows and columns exchanged -/
def colOf (l : List (List Int)) (j : Nat) : List Int := l.map fun r => r.getD j 0
def turned (l : List (List Int)) : List (List Int) := (List.range l.length).map (colOf l)
theorem colOf_length (l : List (List Int)) (j : Nat) : (colOf l j).length = l.length := by simp [colOf]
theorem turned_length (l : List (List Int)) : (turned l).length = l.length := by simp [turned]
theorem turned_at (l : List (List Int)) (j : Nat) (h : j < l.length) : (turned l)[j]'(by rw [turned_length]; exact h) = colOf l j := by simp [turned]
theorem turned_getD (l : List (List Int)) (j : Nat) (h : j < l.length) : (turned l).getD j [] = colOf l j := by
  rw [List.getD_eq_getElem?_getD, List.getElem?_eq_getElem (by rw [turned_length]; exact h), turned_at l j h]; rfl
theorem colOf_getD (l : List (List Int)) (i j : Nat) : (colOf l j).getD i 0 = (l.getD i []).getD j 0 := by
  simp only [colOf, List.getD_eq_getElem?_getD, List.getElem?_map]
  cases l[i]? <;> simp
theorem colOf_mem (l : List (List Int)) (j : Nat) (h : ∀ r ∈ l, j < r.length) (x : Int) (hx : x ∈ colOf l j) : ∃ r ∈ l, x ∈ r := by
  simp only [colOf, List.mem_map] at hx
  obtain ⟨r, hr, rfl⟩ := hx
  refine ⟨r, hr, ?_⟩
  rw [List.getD_eq_getElem?_getD, List.getElem?_eq_getElem (h r hr)]
  exact List.getElem_mem _
theorem turned_plan (l : List (List Int)) (h : planB l = true) : planB (turned l) = true := by
  obtain ⟨h1, h2, h3⟩ := (planB_iff l).1 h
  refine (planB_iff _).2 ⟨by rw [turned_length]; exact h1, by rw [turned_length]; exact h2, fun r hr => ?_⟩
  simp only [turned, List.mem_map, List.mem_range] at hr
  obtain ⟨j, hj, rfl⟩ := hr
  refine ⟨by rw [colOf_length, turned_length], fun x hx => ?_⟩
  obtain ⟨r, hr, hx⟩ := colOf_mem l j (fun r hr => by rw [(h3 r hr).1]; exact hj) x hx
  exact (h3 r hr).2 x hx
theorem ext_getD {α : Type} (d : α) {a b : List α} (hl : a.length = b.length) (h : ∀ i, i < a.length → a.getD i d = b.getD i d) : a = b := by
  refine List.ext_getElem hl fun i h1 h2 => ?_
  have := h i h1
  rw [List.getD_eq_getElem?_getD, List.getD_eq_getElem?_getD, List.getElem?_eq_getElem h1, List.getElem?_eq_getElem h2] at this
  simpa using this
theorem turned_turned (l : List (List Int)) (h : ∀ r ∈ l, r.length = l.length) : turned (turned l) = l := by
  refine ext_getD [] (by rw [turned_length, turned_length]) fun i hi => ?_
  rw [turned_length, turned_length] at hi
  rw [turned_getD _ _ (by rw [turned_length]; exact hi)]
  have hm : l.getD i [] ∈ l := by rw [List.getD_eq_getElem?_getD, List.getElem?_eq_getElem hi]; exact List.getElem_mem _
  refine ext_getD 0 (by rw [colOf_length, turned_length, h _ hm]) fun j hj => ?_
  rw [colOf_length, turned_length] at hj
  rw [colOf_getD, turned_getD _ _ hj, colOf_getD]
end Go.Proofs.Ytllnieknogficaa.K
namespace Go.Proofs.Ytllnieknogficaa.K
open Go.RowKit Go.Proofs.YtllnieknogficaaW.PrintWords Go.Proofs.YtllnieknogficaaW.PrintLast Go.Proofs.YtllnieknogficaaW.PrintMore
attribute [local go_sem] max2_int min2_int max_two min_two max_three min_three max_four min_four   -- for this text's walks alone
set_option linter.unusedVariables false
set_option linter.unusedSimpArgs false

/-! ### impl_IsList: function 81 -/
def impl_IsList.f (k : Nat) (l0 : List Int) : Option (Bool) := (impl_within.f (l0.length : Int) 1 8).bind fun t209 => (if t209 = true then ((impl_allWithin.f k l0 0 60).bind fun t210 => (some t210)) else (some false))
theorem impl_IsList.mono : ∀ a0 k, LeO (impl_IsList.f k a0) (impl_IsList.f (k + 1) a0) := by
  intro a0 k
  unfold impl_IsList.f
  repeat' first
      | (with_reducible exact impl_allWithin.mono _ _ _ _)
      | (with_reducible exact LeO.refl _)
      | (with_reducible exact LeO.none _)
      | (with_reducible refine LeO.ite ?_ ?_)
      | (with_reducible refine LeO.bind ?_ (fun _ => ?_))
      | exact impl_allWithin.mono _ _ _ _
      | exact LeO.none _
      | refine LeO.ite ?_ ?_
      | refine LeO.bind ?_ (fun _ => ?_)
set_option maxHeartbeats 8000000 in
set_option maxRecDepth 100000 in
theorem impl_IsList.calls (k : Nat) (A0 : Option Addr) (c0 : Nat) (l0 : List Int) (r : Bool) (w : World) (hr0 : Kd.C (Kd.int .i64) w A0 l0.length l0) (hc0 : l0.length ≤ c0) (h : impl_IsList.f k l0 = some r) :
    Calls Try.prog 81 #[.slice A0 l0.length c0] w fun e w' => e = .returned (.bool r) ∧ Drawn0 w w' := by
  have HR0 := Aside0.mk hr0
  have HC0 := Aside0.mk hc0
  clear hr0 hc0
  have H : ((impl_within.f (l0.length : Int) 1 8).bind fun t209 => (if t209 = true then ((impl_allWithin.f k l0 0 60).bind fun t210 => (some t210)) else (some false))) = some r := h
  clear h
  replace H := Option.bind_eq_some_iff.mp H
  obtain ⟨t209, A20, H⟩ := H
  replace H : (if t209 = true then ((impl_allWithin.f k l0 0 60).bind fun t210 => (some t210)) else (some false)) = some r := H
  have A2 := Aside0.mk A20
  clear A20
  by_cases c3 : t209 = true
  · subst c3
    have H1 : ((impl_allWithin.f k l0 0 60).bind fun t210 => (some t210)) = some r := by rw [if_pos rfl] at H; exact H
    clear H
    have H := H1
    clear H1
    replace H := Option.bind_eq_some_iff.mp H
    obtain ⟨t210, A40, H⟩ := H
    replace H : (some t210) = some r := H
    have A4 := Aside0.mk A40
    clear A40
    obtain rfl := Option.some.inj H
    go_enter Try.func81, Try.ntmps81
    go_wp2_with (first | ((with_reducible refine gate_callee (f := 173) rfl ?_); refine goesL_ (some 5) rfl rfl Try.func173 (by kernel_rfl) rfl #[.int .i64 (l0.length : Int), .int .i64 1, .int .i64 8] rfl (by (try simp only [List.map_toArray, List.map_cons, List.map_nil]); first | done | rfl | (simp only [List.length_drop, List.length_take]; rfl)) ?_; (with_reducible refine (impl_within.calls (l0.length : Int) 1 8 true _ A2.out).mono ?_); rintro e w' ⟨rfl, ⟨nd, rfl⟩⟩; refine ⟨_, rfl, ?_⟩) | (go_at_call 174; (with_reducible refine (impl_allWithin.calls k _ _ l0 0 60 t210 _ ?side1 ?side2 A4.out).mono ?_); (case side1 => repeat (first | exact HR0.out | (with_reducible refine Kd.C_alloc ?_ _) | (with_reducible refine Kd.C_drewN ?_ _) | (with_reducible refine Kd.C_drew ?_))); (case side2 => exact HC0.out); rintro e w' ⟨rfl, ⟨nd, rfl⟩⟩))
    go_ret
    exact ⟨by first | rfl | (simp; done) | (simp [*]; done), by repeat (first | exact Drawn0.refl _ | apply Drawn0.step)⟩
  · replace c3 := Bool.eq_false_iff.mpr c3
    subst c3
    have H1 : (some false) = some r := by rw [if_neg (show ¬ (false = true) by decide)] at H; exact H
    clear H
    have H := H1
    clear H1
    obtain rfl := Option.some.inj H
    go_enter Try.func81, Try.ntmps81
    go_wp2_with (first | ((with_reducible refine gate_callee (f := 173) rfl ?_); refine goesL_ (some 5) rfl rfl Try.func173 (by kernel_rfl) rfl #[.int .i64 (l0.length : Int), .int .i64 1, .int .i64 8] rfl (by (try simp only [List.map_toArray, List.map_cons, List.map_nil]); first | done | rfl | (simp only [List.length_drop, List.length_take]; rfl)) ?_; (with_reducible refine (impl_within.calls (l0.length : Int) 1 8 false _ A2.out).mono ?_); rintro e w' ⟨rfl, ⟨nd, rfl⟩⟩; refine ⟨_, rfl, ?_⟩))
    go_ret
    exact ⟨by first | rfl | (simp; done) | (simp [*]; done), by repeat (first | exact Drawn0.refl _ | apply Drawn0.step)⟩

end Go.Proofs.Ytllnieknogficaa.K
namespace Go.Proofs.Ytllnieknogficaa.K
open Go.RowKit Go.Proofs.YtllnieknogficaaW.PrintWords Go.Proofs.YtllnieknogficaaW.PrintLast Go.Proofs.YtllnieknogficaaW.PrintMore
attribute [local go_sem] max2_int min2_int max_two min_two max_three min_three max_four min_four   -- for this text's walks alone
set_option linter.unusedVariables false
set_option linter.unusedSimpArgs false

/-! ### impl_areLists: function 104 -/
def impl_areLists.f (k : Nat) (l0 : List Int) (l1 : List Int) : Option (Bool) := (impl_IsList.f k l0).bind fun t211 => (if t211 = true then ((impl_IsList.f k l1).bind fun t212 => (some t212)) else (some false))
theorem impl_areLists.mono : ∀ a0 a1 k, LeO (impl_areLists.f k a0 a1) (impl_areLists.f (k + 1) a0 a1) := by
  intro a0 a1 k
  unfold impl_areLists.f
  repeat' first
      | (with_reducible exact impl_IsList.mono _ _)
      | (with_reducible exact LeO.refl _)
      | (with_reducible exact LeO.none _)
      | (with_reducible refine LeO.ite ?_ ?_)
      | (with_reducible refine LeO.bind ?_ (fun _ => ?_))
      | exact impl_IsList.mono _ _
      | exact LeO.none _
      | refine LeO.ite ?_ ?_
      | refine LeO.bind ?_ (fun _ => ?_)
set_option maxHeartbeats 8000000 in
set_option maxRecDepth 100000 in
theorem impl_areLists.calls (k : Nat) (A0 : Option Addr) (c0 : Nat) (l0 : List Int) (A1 : Option Addr) (c1 : Nat) (l1 : List Int) (r : Bool) (w : World) (hr0 : Kd.C (Kd.int .i64) w A0 l0.length l0) (hc0 : l0.length ≤ c0) (hr1 : Kd.C (Kd.int .i64) w A1 l1.length l1) (hc1 : l1.length ≤ c1) (h : impl_areLists.f k l0 l1 = some r) :
    Calls Try.prog 104 #[.slice A0 l0.length c0, .slice A1 l1.length c1] w fun e w' => e = .returned (.bool r) ∧ Drawn0 w w' := by
  have HR0 := Aside0.mk hr0
  have HC0 := Aside0.mk hc0
  clear hr0 hc0
  have HR1 := Aside0.mk hr1
  have HC1 := Aside0.mk hc1
  clear hr1 hc1
  have H : ((impl_IsList.f k l0).bind fun t211 => (if t211 = true then ((impl_IsList.f k l1).bind fun t212 => (some t212)) else (some false))) = some r := h
  clear h
  replace H := Option.bind_eq_some_iff.mp H
  obtain ⟨t211, A30, H⟩ := H
  replace H : (if t211 = true then ((impl_IsList.f k l1).bind fun t212 => (some t212)) else (some false)) = some r := H
  have A3 := Aside0.mk A30
  clear A30
  by_cases c4 : t211 = true
  · subst c4
    have H1 : ((impl_IsList.f k l1).bind fun t212 => (some t212)) = some r := by rw [if_pos rfl] at H; exact H
    clear H
    have H := H1
    clear H1
    replace H := Option.bind_eq_some_iff.mp H
    obtain ⟨t212, A50, H⟩ := H
    replace H : (some t212) = some r := H
    have A5 := Aside0.mk A50
    clear A50
    obtain rfl := Option.some.inj H
    go_enter Try.func104, Try.ntmps104
    go_wp2_with (first | ((with_reducible refine gate_callee (f := 81) rfl ?_); refine goesL_ (some 6) rfl rfl Try.func81 (by kernel_rfl) rfl #[.slice A0 l0.length c0] rfl (by (try simp only [List.map_toArray, List.map_cons, List.map_nil]); first | done | rfl | (simp only [List.length_drop, List.length_take]; rfl)) ?_; (with_reducible refine (impl_IsList.calls k _ _ l0 true _ ?side1 ?side2 A3.out).mono ?_); (case side1 => repeat (first | exact HR0.out | (with_reducible refine Kd.C_alloc ?_ _) | (with_reducible refine Kd.C_drewN ?_ _) | (with_reducible refine Kd.C_drew ?_))); (case side2 => exact HC0.out); rintro e w' ⟨rfl, ⟨nd, rfl⟩⟩; refine ⟨_, rfl, ?_⟩) | (go_at_call 81; (with_reducible refine (impl_IsList.calls k _ _ l1 t212 _ ?side1 ?side2 A5.out).mono ?_); (case side1 => repeat (first | exact HR1.out | (with_reducible refine Kd.C_alloc ?_ _) | (with_reducible refine Kd.C_drewN ?_ _) | (with_reducible refine Kd.C_drew ?_))); (case side2 => exact HC1.out); rintro e w' ⟨rfl, ⟨nd, rfl⟩⟩))
    go_ret
    exact ⟨by first | rfl | (simp; done) | (simp [*]; done), by repeat (first | exact Drawn0.refl _ | apply Drawn0.step)⟩
  · replace c4 := Bool.eq_false_iff.mpr c4
    subst c4
    have H1 : (some false) = some r := by rw [if_neg (show ¬ (false = true) by decide)] at H; exact H
    clear H
    have H := H1
    clear H1
    obtain rfl := Option.some.inj H
    go_enter Try.func104, Try.ntmps104
    go_wp2_with (first | ((with_reducible refine gate_callee (f := 81) rfl ?_); refine goesL_ (some 6) rfl rfl Try.func81 (by kernel_rfl) rfl #[.slice A0 l0.length c0] rfl (by (try simp only [List.map_toArray, List.map_cons, List.map_nil]); first | done | rfl | (simp only [List.length_drop, List.length_take]; rfl)) ?_; (with_reducible refine (impl_IsList.calls k _ _ l0 false _ ?side1 ?side2 A3.out).mono ?_); (case side1 => repeat (first | exact HR0.out | (with_reducible refine Kd.C_alloc ?_ _) | (with_reducible refine Kd.C_drewN ?_ _) | (with_reducible refine Kd.C_drew ?_))); (case side2 => exact HC0.out); rintro e w' ⟨rfl, ⟨nd, rfl⟩⟩; refine ⟨_, rfl, ?_⟩))
    go_ret
    exact ⟨by first | rfl | (simp; done) | (simp [*]; done), by repeat (first | exact Drawn0.refl _ | apply Drawn0.step)⟩

end Go.Proofs.Ytllnieknogficaa.K
namespace Go.Proofs.Ytllnieknogficaa.K
open Go.RowKit Go.Proofs.YtllnieknogficaaW.PrintWords Go.Proofs.YtllnieknogficaaW.PrintLast Go.Proofs.YtllnieknogficaaW.PrintMore
attribute [local go_sem] max2_int min2_int max_two min_two max_three min_three max_four min_four   -- for this text's walks alone
set_option linter.unusedVariables false
set_option linter.unusedSimpArgs false

/-! ### impl_total: function 187 -/
def impl_total.l0 : Nat → Int → List Int → Int → Int → Option (Int)
  | 0, _, _, _, _ => none
  | k + 1, x3, x6, x7, x8 => if x8 < x7 then (if 0 ≤ x8 then (if x8 < (x6.length : Int) then (impl_total.l0 k (wrap64 (x3 + (rd x6 x8))) x6 x7 (wrap64 (x8 + 1))) else (none)) else (none)) else (some x3)
def impl_total.f (k : Nat) (l0 : List Int) : Option (Int) := impl_total.l0 k 0 l0 (l0.length : Int) 0
theorem impl_total.mono_l : ∀ k, (∀ y0 y1 y2 y3, LeO (impl_total.l0 k y0 y1 y2 y3) (impl_total.l0 (k + 1) y0 y1 y2 y3))
  | 0 => fun _ _ _ _ r h => by simp [impl_total.l0] at h
  | k + 1 => by
    have ih0 := impl_total.mono_l k
    · intro y0 y1 y2 y3
      unfold impl_total.l0
      repeat' first
      | (with_reducible exact ih0 _ _ _ _)
      | (with_reducible exact LeO.refl _)
      | (with_reducible exact LeO.none _)
      | (with_reducible refine LeO.ite ?_ ?_)
      | (with_reducible refine LeO.bind ?_ (fun _ => ?_))
      | exact ih0 _ _ _ _
      | exact LeO.none _
      | refine LeO.ite ?_ ?_
      | refine LeO.bind ?_ (fun _ => ?_)
theorem impl_total.mono : ∀ a0 k, LeO (impl_total.f k a0) (impl_total.f (k + 1) a0) := by
  intro a0 k
  have ih0 := impl_total.mono_l k
  unfold impl_total.f
  repeat' first
      | (with_reducible exact ih0 _ _ _ _)
      | (with_reducible exact LeO.refl _)
      | (with_reducible exact LeO.none _)
      | (with_reducible refine LeO.ite ?_ ?_)
      | (with_reducible refine LeO.bind ?_ (fun _ => ?_))
      | exact ih0 _ _ _ _
      | exact LeO.none _
      | refine LeO.ite ?_ ?_
      | refine LeO.bind ?_ (fun _ => ?_)
set_option maxHeartbeats 8000000 in
set_option maxRecDepth 100000 in
theorem impl_total.calls (k : Nat) (A0 : Option Addr) (c0 : Nat) (l0 : List Int) (r : Int) (w : World) (hr0 : Kd.C (Kd.int .i64) w A0 l0.length l0) (hc0 : l0.length ≤ c0) (h : impl_total.f k l0 = some r) :
    Calls Try.prog 187 #[.slice A0 l0.length c0] w fun e w' => e = .returned (.int .i64 r) ∧ Drawn0 w w' := by
  have HR0 := Aside0.mk hr0
  have HC0 := Aside0.mk hc0
  clear hr0 hc0
  have H : (impl_total.l0 k 0 l0 (l0.length : Int) 0) = some r := h
  clear h
  have H' := Aside0.mk H
  clear H
  go_enter Try.func187, Try.ntmps187
  go_wp2
  go_loopg [3, 8] k (fun kq v3 v8 w' => ∃ (x3_1 : Int) (x8_1 : Int), v3 = .int .i64 x3_1 ∧ v8 = .int .i64 x8_1 ∧ Aside0 (impl_total.l0 kq x3_1 l0 (l0.length : Int) x8_1 = some r) ∧ Aside0 (kq ≤ k) ∧ Drawn0 w w')
  case atStart => exact ⟨(0), (0), (by first | rfl | (simp; done) | (simp [*]; done)), (by first | rfl | (simp; done) | (simp [*]; done)), H', ⟨Nat.le_refl _⟩, by repeat (first | exact Drawn0.refl _ | apply Drawn0.step)⟩
  case round =>
    clear H'
    try clear c1
    obtain ⟨x3_1, x8_1, rfl, rfl, HA, HK1, ⟨m1, rfl⟩⟩ := hrel
    cases gk with
    | zero => exact absurd HA.out (by simp [impl_total.l0])
    | succ k1 =>
      have H := HA.out
      clear HA
      simp only [impl_total.l0] at H
      by_cases c2 : x8_1 < (l0.length : Int)
      · rw [if_pos c2] at H
        have c2b0 : decide (x8_1 < (l0.length : Int)) = true := decide_eq_true c2
        clear c2
        by_cases c3 : 0 ≤ x8_1
        · rw [if_pos c3] at H
          have c3b0 : decide (0 ≤ x8_1) = true := decide_eq_true c3
          clear c3
          by_cases c4 : x8_1 < (l0.length : Int)
          · rw [if_pos c4] at H
            have c4b0 : decide (x8_1 < (l0.length : Int)) = true := decide_eq_true c4
            clear c4
            have H' := Aside0.mk H
            clear H
            have p213 : 0 ≤ (x8_1 : Int) := of_decide_eq_true (by first | (with_reducible assumption) | assumption)
            have q213 : x8_1 < (l0.length : Int) := of_decide_eq_true (by first | (with_reducible assumption) | assumption)
            obtain ⟨ad213, e213, hx213_0⟩ := Kd.at_int HR0.out x8_1 p213 q213
            cases e213
            replace p213 := eq_true p213
            replace q213 := eq_true q213
            go_wp2
            go_roundg k1
            case measure => have := HK1.out; omega
            case rel => exact ⟨(wrap64 (x3_1 + (rd l0 x8_1))), (wrap64 (x8_1 + 1)), (by first | rfl | (simp; done) | (simp [*]; done)), (by first | rfl | (simp; done) | (simp [*]; done)), H', ⟨by have := HK1.out; omega⟩, by repeat (first | exact Drawn0.refl _ | apply Drawn0.step)⟩
          · rw [if_neg c4] at H
            exact absurd H (by simp)
        · rw [if_neg c3] at H
          exact absurd H (by simp)
      · rw [if_neg c2] at H
        have c2b0 : decide (x8_1 < (l0.length : Int)) = false := decide_eq_false c2
        clear c2
        obtain rfl := Option.some.inj H
        go_wp2
        go_ret
        exact ⟨by first | rfl | (simp; done) | (simp [*]; done), by repeat (first | exact Drawn0.refl _ | apply Drawn0.step)⟩

end Go.Proofs.Ytllnieknogficaa.K
namespace Go.Proofs.Ytllnieknogficaa.K
open Go.RowKit Go.Proofs.YtllnieknogficaaW.PrintWords Go.Proofs.YtllnieknogficaaW.PrintLast Go.Proofs.YtllnieknogficaaW.PrintMore
attribute [local go_sem] max2_int min2_int max_two min_two max_three min_three max_four min_four   -- for this text's walks alone
set_option linter.unusedVariables false
set_option linter.unusedSimpArgs false

/-! ### impl_doFit: function 108 -/
def impl_doFit.f (k : Nat) (l0 : List Int) (l1 : List Int) : Option (Bool) := if (l0.length : Int) = (l1.length : Int) then ((impl_total.f k l0).bind fun t214 => ((impl_total.f k l1).bind fun t215 => (some (t214 == t215)))) else (some false)
theorem impl_doFit.mono : ∀ a0 a1 k, LeO (impl_doFit.f k a0 a1) (impl_doFit.f (k + 1) a0 a1) := by
  intro a0 a1 k
  unfold impl_doFit.f
  repeat' first
      | (with_reducible exact impl_total.mono _ _)
      | (with_reducible exact LeO.refl _)
      | (with_reducible exact LeO.none _)
      | (with_reducible refine LeO.ite ?_ ?_)
      | (with_reducible refine LeO.bind ?_ (fun _ => ?_))
      | exact impl_total.mono _ _
      | exact LeO.none _
      | refine LeO.ite ?_ ?_
      | refine LeO.bind ?_ (fun _ => ?_)
set_option maxHeartbeats 8000000 in
set_option maxRecDepth 100000 in
theorem impl_doFit.calls (k : Nat) (A0 : Option Addr) (c0 : Nat) (l0 : List Int) (A1 : Option Addr) (c1 : Nat) (l1 : List Int) (r : Bool) (w : World) (hr0 : Kd.C (Kd.int .i64) w A0 l0.length l0) (hc0 : l0.length ≤ c0) (hr1 : Kd.C (Kd.int .i64) w A1 l1.length l1) (hc1 : l1.length ≤ c1) (h : impl_doFit.f k l0 l1 = some r) :
    Calls Try.prog 108 #[.slice A0 l0.length c0, .slice A1 l1.length c1] w fun e w' => e = .returned (.bool r) ∧ Drawn0 w w' := by
  have HR0 := Aside0.mk hr0
  have HC0 := Aside0.mk hc0
  clear hr0 hc0
  have HR1 := Aside0.mk hr1
  have HC1 := Aside0.mk hc1
  clear hr1 hc1
  have H : (if (l0.length : Int) = (l1.length : Int) then ((impl_total.f k l0).bind fun t214 => ((impl_total.f k l1).bind fun t215 => (some (t214 == t215)))) else (some false)) = some r := h
  clear h
  by_cases c3 : (l0.length : Int) = (l1.length : Int)
  · rw [if_pos c3] at H
    have c3b0 : ((l0.length : Int) == (l1.length : Int)) = true := beq_iff_eq.mpr c3
    have c3b1 : ((l0.length : Int) != (l1.length : Int)) = false := bne_eq_false_iff_eq.mpr c3
    have c3b2 : (l0.length == l1.length) = true := by first | simpa using c3 | (simp at c3 ⊢; omega)
    clear c3
    replace H := Option.bind_eq_some_iff.mp H
    obtain ⟨t214, A40, H⟩ := H
    replace H : ((impl_total.f k l1).bind fun t215 => (some (t214 == t215))) = some r := H
    have A4 := Aside0.mk A40
    clear A40
    replace H := Option.bind_eq_some_iff.mp H
    obtain ⟨t215, A50, H⟩ := H
    replace H : (some (t214 == t215)) = some r := H
    have A5 := Aside0.mk A50
    clear A50
    obtain rfl := Option.some.inj H
    go_enter Try.func108, Try.ntmps108
    go_wp2_with (first | (go_at_call 187; (with_reducible refine (impl_total.calls k _ _ l0 t214 _ ?side1 ?side2 A4.out).mono ?_); (case side1 => repeat (first | exact HR0.out | (with_reducible refine Kd.C_alloc ?_ _) | (with_reducible refine Kd.C_drewN ?_ _) | (with_reducible refine Kd.C_drew ?_))); (case side2 => exact HC0.out); rintro e w' ⟨rfl, ⟨nd, rfl⟩⟩) | (go_at_call 187; (with_reducible refine (impl_total.calls k _ _ l1 t215 _ ?side1 ?side2 A5.out).mono ?_); (case side1 => repeat (first | exact HR1.out | (with_reducible refine Kd.C_alloc ?_ _) | (with_reducible refine Kd.C_drewN ?_ _) | (with_reducible refine Kd.C_drew ?_))); (case side2 => exact HC1.out); rintro e w' ⟨rfl, ⟨nd, rfl⟩⟩))
    go_ret
    exact ⟨by first | rfl | (simp; done) | (simp [*]; done), by repeat (first | exact Drawn0.refl _ | apply Drawn0.step)⟩
  · rw [if_neg c3] at H
    have c3b0 : ((l0.length : Int) == (l1.length : Int)) = false := beq_eq_false_iff_ne.mpr c3
    have c3b1 : ((l0.length : Int) != (l1.length : Int)) = true := bne_iff_ne.mpr c3
    have c3b2 : (l0.length == l1.length) = false := by first | simpa using c3 | (simp at c3 ⊢; omega)
    obtain rfl := Option.some.inj H
    go_enter Try.func108, Try.ntmps108
    go_wp2
    go_ret
    exact ⟨by first | rfl | (simp; done) | (simp [*]; done), by repeat (first | exact Drawn0.refl _ | apply Drawn0.step)⟩

end Go.Proofs.Ytllnieknogficaa.K
namespace Go.Proofs.Ytllnieknogficaa.K
open Go.RowKit Go.Proofs.YtllnieknogficaaW.PrintWords Go.Proofs.YtllnieknogficaaW.PrintLast Go.Proofs.YtllnieknogficaaW.PrintMore
attribute [local go_sem] max2_int min2_int max_two min_two max_three min_three max_four min_four   -- for this text's walks alone
set_option linter.unusedVariables false
set_option linter.unusedSimpArgs false

/-! ### impl_areFitting: function 114 -/
def impl_areFitting.f (k : Nat) (l0 : List Int) (l1 : List Int) : Option (Bool) := (impl_areLists.f k l0 l1).bind fun t319 => (if t319 = true then ((impl_doFit.f k l0 l1).bind fun t320 => (some t320)) else (some false))
theorem impl_areFitting.mono : ∀ a0 a1 k, LeO (impl_areFitting.f k a0 a1) (impl_areFitting.f (k + 1) a0 a1) := by
  intro a0 a1 k
  unfold impl_areFitting.f
  repeat' first
      | (with_reducible exact impl_areLists.mono _ _ _)
      | (with_reducible exact impl_doFit.mono _ _ _)
      | (with_reducible exact LeO.refl _)
      | (with_reducible exact LeO.none _)
      | (with_reducible refine LeO.ite ?_ ?_)
      | (with_reducible refine LeO.bind ?_ (fun _ => ?_))
      | exact impl_areLists.mono _ _ _
      | exact impl_doFit.mono _ _ _
      | exact LeO.none _
      | refine LeO.ite ?_ ?_
      | refine LeO.bind ?_ (fun _ => ?_)
set_option maxHeartbeats 8000000 in
set_option maxRecDepth 100000 in
theorem impl_areFitting.calls (k : Nat) (A0 : Option Addr) (c0 : Nat) (l0 : List Int) (A1 : Option Addr) (c1 : Nat) (l1 : List Int) (r : Bool) (w : World) (hr0 : Kd.C (Kd.int .i64) w A0 l0.length l0) (hc0 : l0.length ≤ c0) (hr1 : Kd.C (Kd.int .i64) w A1 l1.length l1) (hc1 : l1.length ≤ c1) (h : impl_areFitting.f k l0 l1 = some r) :
    Calls Try.prog 114 #[.slice A0 l0.length c0, .slice A1 l1.length c1] w fun e w' => e = .returned (.bool r) ∧ Drawn0 w w' := by
  have HR0 := Aside0.mk hr0
  have HC0 := Aside0.mk hc0
  clear hr0 hc0
  have HR1 := Aside0.mk hr1
  have HC1 := Aside0.mk hc1
  clear hr1 hc1
  have H : ((impl_areLists.f k l0 l1).bind fun t319 => (if t319 = true then ((impl_doFit.f k l0 l1).bind fun t320 => (some t320)) else (some false))) = some r := h
  clear h
  replace H := Option.bind_eq_some_iff.mp H
  obtain ⟨t319, A30, H⟩ := H
  replace H : (if t319 = true then ((impl_doFit.f k l0 l1).bind fun t320 => (some t320)) else (some false)) = some r := H
  have A3 := Aside0.mk A30
  clear A30
  by_cases c4 : t319 = true
  · subst c4
    have H1 : ((impl_doFit.f k l0 l1).bind fun t320 => (some t320)) = some r := by rw [if_pos rfl] at H; exact H
    clear H
    have H := H1
    clear H1
    replace H := Option.bind_eq_some_iff.mp H
    obtain ⟨t320, A50, H⟩ := H
    replace H : (some t320) = some r := H
    have A5 := Aside0.mk A50
    clear A50
    obtain rfl := Option.some.inj H
    go_enter Try.func114, Try.ntmps114
    go_wp2_with (first | ((with_reducible refine gate_callee (f := 104) rfl ?_); refine goesL_ (some 7) rfl rfl Try.func104 (by kernel_rfl) rfl #[.slice A0 l0.length c0, .slice A1 l1.length c1] rfl (by (try simp only [List.map_toArray, List.map_cons, List.map_nil]); first | done | rfl | (simp only [List.length_drop, List.length_take]; rfl)) ?_; (with_reducible refine (impl_areLists.calls k _ _ l0 _ _ l1 true _ ?side1 ?side2 ?side3 ?side4 A3.out).mono ?_); (case side1 => repeat (first | exact HR0.out | (with_reducible refine Kd.C_alloc ?_ _) | (with_reducible refine Kd.C_drewN ?_ _) | (with_reducible refine Kd.C_drew ?_))); (case side2 => exact HC0.out); (case side3 => repeat (first | exact HR1.out | (with_reducible refine Kd.C_alloc ?_ _) | (with_reducible refine Kd.C_drewN ?_ _) | (with_reducible refine Kd.C_drew ?_))); (case side4 => exact HC1.out); rintro e w' ⟨rfl, ⟨nd, rfl⟩⟩; refine ⟨_, rfl, ?_⟩) | (go_at_call 108; (with_reducible refine (impl_doFit.calls k _ _ l0 _ _ l1 t320 _ ?side1 ?side2 ?side3 ?side4 A5.out).mono ?_); (case side1 => repeat (first | exact HR0.out | (with_reducible refine Kd.C_alloc ?_ _) | (with_reducible refine Kd.C_drewN ?_ _) | (with_reducible refine Kd.C_drew ?_))); (case side2 => exact HC0.out); (case side3 => repeat (first | exact HR1.out | (with_reducible refine Kd.C_alloc ?_ _) | (with_reducible refine Kd.C_drewN ?_ _) | (with_reducible refine Kd.C_drew ?_))); (case side4 => exact HC1.out); rintro e w' ⟨rfl, ⟨nd, rfl⟩⟩))
    go_ret
    exact ⟨by first | rfl | (simp; done) | (simp [*]; done), by repeat (first | exact Drawn0.refl _ | apply Drawn0.step)⟩
  · replace c4 := Bool.eq_false_iff.mpr c4
    subst c4
    have H1 : (some false) = some r := by rw [if_neg (show ¬ (false = true) by decide)] at H; exact H
    clear H
    have H := H1
    clear H1
    obtain rfl := Option.some.inj H
    go_enter Try.func114, Try.ntmps114
    go_wp2_with (first | ((with_reducible refine gate_callee (f := 104) rfl ?_); refine goesL_ (some 7) rfl rfl Try.func104 (by kernel_rfl) rfl #[.slice A0 l0.length c0, .slice A1 l1.length c1] rfl (by (try simp only [List.map_toArray, List.map_cons, List.map_nil]); first | done | rfl | (simp only [List.length_drop, List.length_take]; rfl)) ?_; (with_reducible refine (impl_areLists.calls k _ _ l0 _ _ l1 false _ ?side1 ?side2 ?side3 ?side4 A3.out).mono ?_); (case side1 => repeat (first | exact HR0.out | (with_reducible refine Kd.C_alloc ?_ _) | (with_reducible refine Kd.C_drewN ?_ _) | (with_reducible refine Kd.C_drew ?_))); (case side2 => exact HC0.out); (case side3 => repeat (first | exact HR1.out | (with_reducible refine Kd.C_alloc ?_ _) | (with_reducible refine Kd.C_drewN ?_ _) | (with_reducible refine Kd.C_drew ?_))); (case side4 => exact HC1.out); rintro e w' ⟨rfl, ⟨nd, rfl⟩⟩; refine ⟨_, rfl, ?_⟩))
    go_ret
    exact ⟨by first | rfl | (simp; done) | (simp [*]; done), by repeat (first | exact Drawn0.refl _ | apply Drawn0.step)⟩

end Go.Proofs.Ytllnieknogficaa.K
namespace Go.Proofs.Ytllnieknogficaa.K
open Go.RowKit Go.Proofs.YtllnieknogficaaW.PrintWords Go.Proofs.YtllnieknogficaaW.PrintLast Go.Proofs.YtllnieknogficaaW.PrintMore
attribute [local go_sem] max2_int min2_int max_two min_two max_three min_three max_four min_four   -- for this text's walks alone
set_option linter.unusedVariables false
set_option linter.unusedSimpArgs false

/-! ### spec_liGood: function 106 -/
def spec_liGood.f (k : Nat) (l0 : List Int) : Option (Bool) := (spec_l1In.f (l0.length : Int) 1 8).bind fun t228 => (if t228 = true then ((spec_l1All.f k l0 0 60).bind fun t229 => (some t229)) else (some false))
theorem spec_liGood.mono : ∀ a0 k, LeO (spec_liGood.f k a0) (spec_liGood.f (k + 1) a0) := by
  intro a0 k
  unfold spec_liGood.f
  repeat' first
      | (with_reducible exact spec_l1All.mono _ _ _ _)
      | (with_reducible exact LeO.refl _)
      | (with_reducible exact LeO.none _)
      | (with_reducible refine LeO.ite ?_ ?_)
      | (with_reducible refine LeO.bind ?_ (fun _ => ?_))
      | exact spec_l1All.mono _ _ _ _
      | exact LeO.none _
      | refine LeO.ite ?_ ?_
      | refine LeO.bind ?_ (fun _ => ?_)
set_option maxHeartbeats 8000000 in
set_option maxRecDepth 100000 in
theorem spec_liGood.calls (k : Nat) (A0 : Option Addr) (c0 : Nat) (l0 : List Int) (r : Bool) (w : World) (hr0 : Kd.C (Kd.int .i64) w A0 l0.length l0) (hc0 : l0.length ≤ c0) (h : spec_liGood.f k l0 = some r) :
    Calls Try.prog 106 #[.slice A0 l0.length c0] w fun e w' => e = .returned (.bool r) ∧ Drawn0 w w' := by
  have HR0 := Aside0.mk hr0
  have HC0 := Aside0.mk hc0
  clear hr0 hc0
  have H : ((spec_l1In.f (l0.length : Int) 1 8).bind fun t228 => (if t228 = true then ((spec_l1All.f k l0 0 60).bind fun t229 => (some t229)) else (some false))) = some r := h
  clear h
  replace H := Option.bind_eq_some_iff.mp H
  obtain ⟨t228, A20, H⟩ := H
  replace H : (if t228 = true then ((spec_l1All.f k l0 0 60).bind fun t229 => (some t229)) else (some false)) = some r := H
  have A2 := Aside0.mk A20
  clear A20
  by_cases c3 : t228 = true
  · subst c3
    have H1 : ((spec_l1All.f k l0 0 60).bind fun t229 => (some t229)) = some r := by rw [if_pos rfl] at H; exact H
    clear H
    have H := H1
    clear H1
    replace H := Option.bind_eq_some_iff.mp H
    obtain ⟨t229, A40, H⟩ := H
    replace H : (some t229) = some r := H
    have A4 := Aside0.mk A40
    clear A40
    obtain rfl := Option.some.inj H
    go_enter Try.func106, Try.ntmps106
    go_wp2_with (first | ((with_reducible refine gate_callee (f := 195) rfl ?_); refine goesL_ (some 5) rfl rfl Try.func195 (by kernel_rfl) rfl #[.int .i64 (l0.length : Int), .int .i64 1, .int .i64 8] rfl (by (try simp only [List.map_toArray, List.map_cons, List.map_nil]); first | done | rfl | (simp only [List.length_drop, List.length_take]; rfl)) ?_; (with_reducible refine (spec_l1In.calls (l0.length : Int) 1 8 true _ A2.out).mono ?_); rintro e w' ⟨rfl, ⟨nd, rfl⟩⟩; refine ⟨_, rfl, ?_⟩) | (go_at_call 196; (with_reducible refine (spec_l1All.calls k _ _ l0 0 60 t229 _ ?side1 ?side2 A4.out).mono ?_); (case side1 => repeat (first | exact HR0.out | (with_reducible refine Kd.C_alloc ?_ _) | (with_reducible refine Kd.C_drewN ?_ _) | (with_reducible refine Kd.C_drew ?_))); (case side2 => exact HC0.out); rintro e w' ⟨rfl, ⟨nd, rfl⟩⟩))
    go_ret
    exact ⟨by first | rfl | (simp; done) | (simp [*]; done), by repeat (first | exact Drawn0.refl _ | apply Drawn0.step)⟩
  · replace c3 := Bool.eq_false_iff.mpr c3
    subst c3
    have H1 : (some false) = some r := by rw [if_neg (show ¬ (false = true) by decide)] at H; exact H
    clear H
    have H := H1
    clear H1
    obtain rfl := Option.some.inj H
    go_enter Try.func106, Try.ntmps106
    go_wp2_with (first | ((with_reducible refine gate_callee (f := 195) rfl ?_); refine goesL_ (some 5) rfl rfl Try.func195 (by kernel_rfl) rfl #[.int .i64 (l0.length : Int), .int .i64 1, .int .i64 8] rfl (by (try simp only [List.map_toArray, List.map_cons, List.map_nil]); first | done | rfl | (simp only [List.length_drop, List.length_take]; rfl)) ?_; (with_reducible refine (spec_l1In.calls (l0.length : Int) 1 8 false _ A2.out).mono ?_); rintro e w' ⟨rfl, ⟨nd, rfl⟩⟩; refine ⟨_, rfl, ?_⟩))
    go_ret
    exact ⟨by first | rfl | (simp; done) | (simp [*]; done), by repeat (first | exact Drawn0.refl _ | apply Drawn0.step)⟩

end Go.Proofs.Ytllnieknogficaa.K
namespace Go.Proofs.Ytllnieknogficaa.K
open Go.RowKit Go.Proofs.YtllnieknogficaaW.PrintWords Go.Proofs.YtllnieknogficaaW.PrintLast Go.Proofs.YtllnieknogficaaW.PrintMore
attribute [local go_sem] max2_int min2_int max_two min_two max_three min_three max_four min_four   -- for this text's walks alone
set_option linter.unusedVariables false
set_option linter.unusedSimpArgs false

/-! ### spec_liSum: function 215 -/
def spec_liSum.l0 : Nat → Int → List Int → Int → Int → Option (Int)
  | 0, _, _, _, _ => none
  | k + 1, x3, x6, x7, x8 => if x8 < x7 then (if 0 ≤ x8 then (if x8 < (x6.length : Int) then (spec_liSum.l0 k (wrap64 (x3 + (rd x6 x8))) x6 x7 (wrap64 (x8 + 1))) else (none)) else (none)) else (some x3)
def spec_liSum.f (k : Nat) (l0 : List Int) : Option (Int) := spec_liSum.l0 k 0 l0 (l0.length : Int) 0
theorem spec_liSum.mono_l : ∀ k, (∀ y0 y1 y2 y3, LeO (spec_liSum.l0 k y0 y1 y2 y3) (spec_liSum.l0 (k + 1) y0 y1 y2 y3))
  | 0 => fun _ _ _ _ r h => by simp [spec_liSum.l0] at h
  | k + 1 => by
    have ih0 := spec_liSum.mono_l k
    · intro y0 y1 y2 y3
      unfold spec_liSum.l0
      repeat' first
      | (with_reducible exact ih0 _ _ _ _)
      | (with_reducible exact LeO.refl _)
      | (with_reducible exact LeO.none _)
      | (with_reducible refine LeO.ite ?_ ?_)
      | (with_reducible refine LeO.bind ?_ (fun _ => ?_))
      | exact ih0 _ _ _ _
      | exact LeO.none _
      | refine LeO.ite ?_ ?_
      | refine LeO.bind ?_ (fun _ => ?_)
theorem spec_liSum.mono : ∀ a0 k, LeO (spec_liSum.f k a0) (spec_liSum.f (k + 1) a0) := by
  intro a0 k
  have ih0 := spec_liSum.mono_l k
  unfold spec_liSum.f
  repeat' first
      | (with_reducible exact ih0 _ _ _ _)
      | (with_reducible exact LeO.refl _)
      | (with_reducible exact LeO.none _)
      | (with_reducible refine LeO.ite ?_ ?_)
      | (with_reducible refine LeO.bind ?_ (fun _ => ?_))
      | exact ih0 _ _ _ _
      | exact LeO.none _
      | refine LeO.ite ?_ ?_
      | refine LeO.bind ?_ (fun _ => ?_)
set_option maxHeartbeats 8000000 in
set_option maxRecDepth 100000 in
theorem spec_liSum.calls (k : Nat) (A0 : Option Addr) (c0 : Nat) (l0 : List Int) (r : Int) (w : World) (hr0 : Kd.C (Kd.int .i64) w A0 l0.length l0) (hc0 : l0.length ≤ c0) (h : spec_liSum.f k l0 = some r) :
    Calls Try.prog 215 #[.slice A0 l0.length c0] w fun e w' => e = .returned (.int .i64 r) ∧ Drawn0 w w' := by
  have HR0 := Aside0.mk hr0
  have HC0 := Aside0.mk hc0
  clear hr0 hc0
  have H : (spec_liSum.l0 k 0 l0 (l0.length : Int) 0) = some r := h
  clear h
  have H' := Aside0.mk H
  clear H
  go_enter Try.func215, Try.ntmps215
  go_wp2
  go_loopg [3, 8] k (fun kq v3 v8 w' => ∃ (x3_1 : Int) (x8_1 : Int), v3 = .int .i64 x3_1 ∧ v8 = .int .i64 x8_1 ∧ Aside0 (spec_liSum.l0 kq x3_1 l0 (l0.length : Int) x8_1 = some r) ∧ Aside0 (kq ≤ k) ∧ Drawn0 w w')
  case atStart => exact ⟨(0), (0), (by first | rfl | (simp; done) | (simp [*]; done)), (by first | rfl | (simp; done) | (simp [*]; done)), H', ⟨Nat.le_refl _⟩, by repeat (first | exact Drawn0.refl _ | apply Drawn0.step)⟩
  case round =>
    clear H'
    obtain ⟨x3_1, x8_1, rfl, rfl, HA, HK1, ⟨m1, rfl⟩⟩ := hrel
    cases gk with
    | zero => exact absurd HA.out (by simp [spec_liSum.l0])
    | succ k1 =>
      have H := HA.out
      clear HA
      simp only [spec_liSum.l0] at H
      by_cases c2 : x8_1 < (l0.length : Int)
      · rw [if_pos c2] at H
        have c2b0 : decide (x8_1 < (l0.length : Int)) = true := decide_eq_true c2
        clear c2
        by_cases c3 : 0 ≤ x8_1
        · rw [if_pos c3] at H
          have c3b0 : decide (0 ≤ x8_1) = true := decide_eq_true c3
          clear c3
          by_cases c4 : x8_1 < (l0.length : Int)
          · rw [if_pos c4] at H
            have c4b0 : decide (x8_1 < (l0.length : Int)) = true := decide_eq_true c4
            clear c4
            have H' := Aside0.mk H
            clear H
            have p230 : 0 ≤ (x8_1 : Int) := of_decide_eq_true (by first | (with_reducible assumption) | assumption)
            have q230 : x8_1 < (l0.length : Int) := of_decide_eq_true (by first | (with_reducible assumption) | assumption)
            obtain ⟨ad230, e230, hx230_0⟩ := Kd.at_int HR0.out x8_1 p230 q230
            cases e230
            replace p230 := eq_true p230
            replace q230 := eq_true q230
            go_wp2
            go_roundg k1
            case measure => have := HK1.out; omega
            case rel => exact ⟨(wrap64 (x3_1 + (rd l0 x8_1))), (wrap64 (x8_1 + 1)), (by first | rfl | (simp; done) | (simp [*]; done)), (by first | rfl | (simp; done) | (simp [*]; done)), H', ⟨by have := HK1.out; omega⟩, by repeat (first | exact Drawn0.refl _ | apply Drawn0.step)⟩
          · rw [if_neg c4] at H
            exact absurd H (by simp)
        · rw [if_neg c3] at H
          exact absurd H (by simp)
      · rw [if_neg c2] at H
        have c2b0 : decide (x8_1 < (l0.length : Int)) = false := decide_eq_false c2
        clear c2
        obtain rfl := Option.some.inj H
        go_wp2
        go_ret
        exact ⟨by first | rfl | (simp; done) | (simp [*]; done), by repeat (first | exact Drawn0.refl _ | apply Drawn0.step)⟩

end Go.Proofs.Ytllnieknogficaa.K
namespace Go.Proofs.Ytllnieknogficaa.K
open Go.RowKit Go.Proofs.YtllnieknogficaaW.PrintWords Go.Proofs.YtllnieknogficaaW.PrintLast Go.Proofs.YtllnieknogficaaW.PrintMore
attribute [local go_sem] max2_int min2_int max_two min_two max_three min_three max_four min_four   -- for this text's walks alone
set_option linter.unusedVariables false
set_option linter.unusedSimpArgs false

/-! ### spec_liFit: function 192 -/
def spec_liFit.f (k : Nat) (l0 : List Int) (l1 : List Int) : Option (Bool) := if (l0.length : Int) = (l1.length : Int) then ((spec_liSum.f k l0).bind fun t231 => ((spec_liSum.f k l1).bind fun t232 => (some (t231 == t232)))) else (some false)
theorem spec_liFit.mono : ∀ a0 a1 k, LeO (spec_liFit.f k a0 a1) (spec_liFit.f (k + 1) a0 a1) := by
  intro a0 a1 k
  unfold spec_liFit.f
  repeat' first
      | (with_reducible exact spec_liSum.mono _ _)
      | (with_reducible exact LeO.refl _)
      | (with_reducible exact LeO.none _)
      | (with_reducible refine LeO.ite ?_ ?_)
      | (with_reducible refine LeO.bind ?_ (fun _ => ?_))
      | exact spec_liSum.mono _ _
      | exact LeO.none _
      | refine LeO.ite ?_ ?_
      | refine LeO.bind ?_ (fun _ => ?_)
set_option maxHeartbeats 8000000 in
set_option maxRecDepth 100000 in
theorem spec_liFit.calls (k : Nat) (A0 : Option Addr) (c0 : Nat) (l0 : List Int) (A1 : Option Addr) (c1 : Nat) (l1 : List Int) (r : Bool) (w : World) (hr0 : Kd.C (Kd.int .i64) w A0 l0.length l0) (hc0 : l0.length ≤ c0) (hr1 : Kd.C (Kd.int .i64) w A1 l1.length l1) (hc1 : l1.length ≤ c1) (h : spec_liFit.f k l0 l1 = some r) :
    Calls Try.prog 192 #[.slice A0 l0.length c0, .slice A1 l1.length c1] w fun e w' => e = .returned (.bool r) ∧ Drawn0 w w' := by
  have HR0 := Aside0.mk hr0
  have HC0 := Aside0.mk hc0
  clear hr0 hc0
  have HR1 := Aside0.mk hr1
  have HC1 := Aside0.mk hc1
  clear hr1 hc1
  have H : (if (l0.length : Int) = (l1.length : Int) then ((spec_liSum.f k l0).bind fun t231 => ((spec_liSum.f k l1).bind fun t232 => (some (t231 == t232)))) else (some false)) = some r := h
  clear h
  by_cases c3 : (l0.length : Int) = (l1.length : Int)
  · rw [if_pos c3] at H
    have c3b0 : ((l0.length : Int) == (l1.length : Int)) = true := beq_iff_eq.mpr c3
    have c3b1 : ((l0.length : Int) != (l1.length : Int)) = false := bne_eq_false_iff_eq.mpr c3
    have c3b2 : (l0.length == l1.length) = true := by first | simpa using c3 | (simp at c3 ⊢; omega)
    clear c3
    replace H := Option.bind_eq_some_iff.mp H
    obtain ⟨t231, A40, H⟩ := H
    replace H : ((spec_liSum.f k l1).bind fun t232 => (some (t231 == t232))) = some r := H
    have A4 := Aside0.mk A40
    clear A40
    replace H := Option.bind_eq_some_iff.mp H
    obtain ⟨t232, A50, H⟩ := H
    replace H : (some (t231 == t232)) = some r := H
    have A5 := Aside0.mk A50
    clear A50
    obtain rfl := Option.some.inj H
    go_enter Try.func192, Try.ntmps192
    go_wp2_with (first | (go_at_call 215; (with_reducible refine (spec_liSum.calls k _ _ l0 t231 _ ?side1 ?side2 A4.out).mono ?_); (case side1 => repeat (first | exact HR0.out | (with_reducible refine Kd.C_alloc ?_ _) | (with_reducible refine Kd.C_drewN ?_ _) | (with_reducible refine Kd.C_drew ?_))); (case side2 => exact HC0.out); rintro e w' ⟨rfl, ⟨nd, rfl⟩⟩) | (go_at_call 215; (with_reducible refine (spec_liSum.calls k _ _ l1 t232 _ ?side1 ?side2 A5.out).mono ?_); (case side1 => repeat (first | exact HR1.out | (with_reducible refine Kd.C_alloc ?_ _) | (with_reducible refine Kd.C_drewN ?_ _) | (with_reducible refine Kd.C_drew ?_))); (case side2 => exact HC1.out); rintro e w' ⟨rfl, ⟨nd, rfl⟩⟩))
    go_ret
    exact ⟨by first | rfl | (simp; done) | (simp [*]; done), by repeat (first | exact Drawn0.refl _ | apply Drawn0.step)⟩
  · rw [if_neg c3] at H
    have c3b0 : ((l0.length : Int) == (l1.length : Int)) = false := beq_eq_false_iff_ne.mpr c3
    have c3b1 : ((l0.length : Int) != (l1.length : Int)) = true := bne_iff_ne.mpr c3
    have c3b2 : (l0.length == l1.length) = false := by first | simpa using c3 | (simp at c3 ⊢; omega)
    obtain rfl := Option.some.inj H
    go_enter Try.func192, Try.ntmps192
    go_wp2
    go_ret
    exact ⟨by first | rfl | (simp; done) | (simp [*]; done), by repeat (first | exact Drawn0.refl _ | apply Drawn0.step)⟩

end Go.Proofs.Ytllnieknogficaa.K
namespace Go.Proofs.Ytllnieknogficaa.K
open Go.RowKit Go.Proofs.YtllnieknogficaaW.PrintWords Go.Proofs.YtllnieknogficaaW.PrintLast Go.Proofs.YtllnieknogficaaW.PrintMore
attribute [local go_sem] max2_int min2_int max_two min_two max_three min_three max_four min_four   -- for this text's walks alone
set_option linter.unusedVariables false
set_option linter.unusedSimpArgs false

/-! ### spec_plBoth: function 138 -/
def spec_plBoth.f (k : Nat) (l0 : List Int) (l1 : List Int) : Option (Bool) := (spec_liGood.f k l0).bind fun t573 => (if t573 = true then ((spec_liGood.f k l1).bind fun t574 => (if t574 = true then ((spec_liFit.f k l0 l1).bind fun t575 => (some t575)) else (some false))) else (some false))
theorem spec_plBoth.mono : ∀ a0 a1 k, LeO (spec_plBoth.f k a0 a1) (spec_plBoth.f (k + 1) a0 a1) := by
  intro a0 a1 k
  unfold spec_plBoth.f
  repeat' first
      | (with_reducible exact spec_liFit.mono _ _ _)
      | (with_reducible exact spec_liGood.mono _ _)
      | (with_reducible exact LeO.refl _)
      | (with_reducible exact LeO.none _)
      | (with_reducible refine LeO.ite ?_ ?_)
      | (with_reducible refine LeO.bind ?_ (fun _ => ?_))
      | exact spec_liFit.mono _ _ _
      | exact spec_liGood.mono _ _
      | exact LeO.none _
      | refine LeO.ite ?_ ?_
      | refine LeO.bind ?_ (fun _ => ?_)
set_option maxHeartbeats 8000000 in
set_option maxRecDepth 100000 in
theorem spec_plBoth.calls (k : Nat) (A0 : Option Addr) (c0 : Nat) (l0 : List Int) (A1 : Option Addr) (c1 : Nat) (l1 : List Int) (r : Bool) (w : World) (hr0 : Kd.C (Kd.int .i64) w A0 l0.length l0) (hc0 : l0.length ≤ c0) (hr1 : Kd.C (Kd.int .i64) w A1 l1.length l1) (hc1 : l1.length ≤ c1) (h : spec_plBoth.f k l0 l1 = some r) :
    Calls Try.prog 138 #[.slice A0 l0.length c0, .slice A1 l1.length c1] w fun e w' => e = .returned (.bool r) ∧ Drawn0 w w' := by
  have HR0 := Aside0.mk hr0
  have HC0 := Aside0.mk hc0
  clear hr0 hc0
  have HR1 := Aside0.mk hr1
  have HC1 := Aside0.mk hc1
  clear hr1 hc1
  have H : ((spec_liGood.f k l0).bind fun t573 => (if t573 = true then ((spec_liGood.f k l1).bind fun t574 => (if t574 = true then ((spec_liFit.f k l0 l1).bind fun t575 => (some t575)) else (some false))) else (some false))) = some r := h
  clear h
  replace H := Option.bind_eq_some_iff.mp H
  obtain ⟨t573, A30, H⟩ := H
  replace H : (if t573 = true then ((spec_liGood.f k l1).bind fun t574 => (if t574 = true then ((spec_liFit.f k l0 l1).bind fun t575 => (some t575)) else (some false))) else (some false)) = some r := H
  have A3 := Aside0.mk A30
  clear A30
  by_cases c4 : t573 = true
  · subst c4
    have H1 : ((spec_liGood.f k l1).bind fun t574 => (if t574 = true then ((spec_liFit.f k l0 l1).bind fun t575 => (some t575)) else (some false))) = some r := by rw [if_pos rfl] at H; exact H
    clear H
    have H := H1
    clear H1
    replace H := Option.bind_eq_some_iff.mp H
    obtain ⟨t574, A50, H⟩ := H
    replace H : (if t574 = true then ((spec_liFit.f k l0 l1).bind fun t575 => (some t575)) else (some false)) = some r := H
    have A5 := Aside0.mk A50
    clear A50
    by_cases c6 : t574 = true
    · subst c6
      have H1 : ((spec_liFit.f k l0 l1).bind fun t575 => (some t575)) = some r := by rw [if_pos rfl] at H; exact H
      clear H
      have H := H1
      clear H1
      replace H := Option.bind_eq_some_iff.mp H
      obtain ⟨t575, A70, H⟩ := H
      replace H : (some t575) = some r := H
      have A7 := Aside0.mk A70
      clear A70
      obtain rfl := Option.some.inj H
      go_enter Try.func138, Try.ntmps138
      go_wp2_with (first | ((with_reducible refine gate_callee (f := 106) rfl ?_); refine goesL_ (some 6) rfl rfl Try.func106 (by kernel_rfl) rfl #[.slice A0 l0.length c0] rfl (by (try simp only [List.map_toArray, List.map_cons, List.map_nil]); first | done | rfl | (simp only [List.length_drop, List.length_take]; rfl)) ?_; (with_reducible refine (spec_liGood.calls k _ _ l0 true _ ?side1 ?side2 A3.out).mono ?_); (case side1 => repeat (first | exact HR0.out | (with_reducible refine Kd.C_alloc ?_ _) | (with_reducible refine Kd.C_drewN ?_ _) | (with_reducible refine Kd.C_drew ?_))); (case side2 => exact HC0.out); rintro e w' ⟨rfl, ⟨nd, rfl⟩⟩; refine ⟨_, rfl, ?_⟩) | (go_at_call 106; (with_reducible refine (spec_liGood.calls k _ _ l1 true _ ?side1 ?side2 A5.out).mono ?_); (case side1 => repeat (first | exact HR1.out | (with_reducible refine Kd.C_alloc ?_ _) | (with_reducible refine Kd.C_drewN ?_ _) | (with_reducible refine Kd.C_drew ?_))); (case side2 => exact HC1.out); rintro e w' ⟨rfl, ⟨nd, rfl⟩⟩) | (go_at_call 192; (with_reducible refine (spec_liFit.calls k _ _ l0 _ _ l1 t575 _ ?side1 ?side2 ?side3 ?side4 A7.out).mono ?_); (case side1 => repeat (first | exact HR0.out | (with_reducible refine Kd.C_alloc ?_ _) | (with_reducible refine Kd.C_drewN ?_ _) | (with_reducible refine Kd.C_drew ?_))); (case side2 => exact HC0.out); (case side3 => repeat (first | exact HR1.out | (with_reducible refine Kd.C_alloc ?_ _) | (with_reducible refine Kd.C_drewN ?_ _) | (with_reducible refine Kd.C_drew ?_))); (case side4 => exact HC1.out); rintro e w' ⟨rfl, ⟨nd, rfl⟩⟩))
      go_ret
      exact ⟨by first | rfl | (simp; done) | (simp [*]; done), by repeat (first | exact Drawn0.refl _ | apply Drawn0.step)⟩
    · replace c6 := Bool.eq_false_iff.mpr c6
      subst c6
      have H1 : (some false) = some r := by rw [if_neg (show ¬ (false = true) by decide)] at H; exact H
      clear H
      have H := H1
      clear H1
      obtain rfl := Option.some.inj H
      go_enter Try.func138, Try.ntmps138
      go_wp2_with (first | ((with_reducible refine gate_callee (f := 106) rfl ?_); refine goesL_ (some 6) rfl rfl Try.func106 (by kernel_rfl) rfl #[.slice A0 l0.length c0] rfl (by (try simp only [List.map_toArray, List.map_cons, List.map_nil]); first | done | rfl | (simp only [List.length_drop, List.length_take]; rfl)) ?_; (with_reducible refine (spec_liGood.calls k _ _ l0 true _ ?side1 ?side2 A3.out).mono ?_); (case side1 => repeat (first | exact HR0.out | (with_reducible refine Kd.C_alloc ?_ _) | (with_reducible refine Kd.C_drewN ?_ _) | (with_reducible refine Kd.C_drew ?_))); (case side2 => exact HC0.out); rintro e w' ⟨rfl, ⟨nd, rfl⟩⟩; refine ⟨_, rfl, ?_⟩) | (go_at_call 106; (with_reducible refine (spec_liGood.calls k _ _ l1 false _ ?side1 ?side2 A5.out).mono ?_); (case side1 => repeat (first | exact HR1.out | (with_reducible refine Kd.C_alloc ?_ _) | (with_reducible refine Kd.C_drewN ?_ _) | (with_reducible refine Kd.C_drew ?_))); (case side2 => exact HC1.out); rintro e w' ⟨rfl, ⟨nd, rfl⟩⟩))
      go_ret
      exact ⟨by first | rfl | (simp; done) | (simp [*]; done), by repeat (first | exact Drawn0.refl _ | apply Drawn0.step)⟩
  · replace c4 := Bool.eq_false_iff.mpr c4
    subst c4
    have H1 : (some false) = some r := by rw [if_neg (show ¬ (false = true) by decide)] at H; exact H
    clear H
    have H := H1
    clear H1
    obtain rfl := Option.some.inj H
    go_enter Try.func138, Try.ntmps138
    go_wp2_with (first | ((with_reducible refine gate_callee (f := 106) rfl ?_); refine goesL_ (some 6) rfl rfl Try.func106 (by kernel_rfl) rfl #[.slice A0 l0.length c0] rfl (by (try simp only [List.map_toArray, List.map_cons, List.map_nil]); first | done | rfl | (simp only [List.length_drop, List.length_take]; rfl)) ?_; (with_reducible refine (spec_liGood.calls k _ _ l0 false _ ?side1 ?side2 A3.out).mono ?_); (case side1 => repeat (first | exact HR0.out | (with_reducible refine Kd.C_alloc ?_ _) | (with_reducible refine Kd.C_drewN ?_ _) | (with_reducible refine Kd.C_drew ?_))); (case side2 => exact HC0.out); rintro e w' ⟨rfl, ⟨nd, rfl⟩⟩; refine ⟨_, rfl, ?_⟩))
    go_ret
    exact ⟨by first | rfl | (simp; done) | (simp [*]; done), by repeat (first | exact Drawn0.refl _ | apply Drawn0.step)⟩

end Go.Proofs.Ytllnieknogficaa.K
namespace Go.Proofs.Ytllnieknogficaa.K
open Go.RowKit Go.Proofs.YtllnieknogficaaW.PrintWords Go.Proofs.YtllnieknogficaaW.PrintLast Go.Proofs.YtllnieknogficaaW.PrintMore
attribute [local go_sem] max2_int min2_int max_two min_two max_three min_three max_four min_four   -- for this text's walks alone
set_option linter.unusedVariables false
set_option linter.unusedSimpArgs false
def listB (l : List Int) : Bool := decide (1 ≤ l.length) && decide (l.length ≤ 8) && l.all fun x => decide (0 ≤ x) && decide (x ≤ 60)
def isum (l : List Int) : Int := l.foldl (fun s x => wrap64 (s + x)) 0
def fitB (a b : List Int) : Bool := listB a && listB b && (decide (a.length = b.length) && (isum a == isum b))
theorem listB_iff (l : List Int) : listB l = true ↔ 1 ≤ l.length ∧ l.length ≤ 8 ∧ ∀ x ∈ l, 0 ≤ x ∧ x ≤ 60 := by
  simp [listB, List.all_eq_true, and_assoc]
theorem fitB_iff (a b : List Int) : fitB a b = true ↔ listB a = true ∧ listB b = true ∧ a.length = b.length ∧ isum a = isum b := by
  simp [fitB, and_assoc]
theorem allWithin_ev (l : List Int) (a b : Int) (hl : l.length ≤ 4611686018427387904) : Ev (fun k => impl_allWithin.f k l a b) (l.all fun x => decide (a ≤ x) && decide (x ≤ b)) := by
  refine ⟨l.length + 1, fun k hk => ?_⟩
  have h := impl_isPlan.all l a b (by omega) l.length k 0 (by omega) (by omega) (by omega)
  simpa [impl_allWithin.f] using h
theorem total_l0 (l : List Int) (hl : l.length ≤ 4611686018427387904) : ∀ d (i : Nat) (s : Int), i ≤ l.length → l.length - i = d →
    Ev (fun k => impl_total.l0 k s l (l.length : Int) (i : Int)) ((l.drop i).foldl (fun s x => wrap64 (s + x)) s) ∧ Ev (fun k => spec_liSum.l0 k s l (l.length : Int) (i : Int)) ((l.drop i).foldl (fun s x => wrap64 (s + x)) s) := by
  intro d
  induction d with
  | zero =>
    intro i s hi hd
    have : i = l.length := by omega
    subst this
    refine ⟨ev_succ ?_, ev_succ ?_⟩
    · simp only [impl_total.l0, if_neg (Int.lt_irrefl _), List.drop_length, List.foldl_nil]
      exact ev_now _ _ rfl
    · simp only [spec_liSum.l0, if_neg (Int.lt_irrefl _), List.drop_length, List.foldl_nil]
      exact ev_now _ _ rfl
  | succ d ih =>
    intro i s hi hd
    have hlt : i < l.length := by omega
    have h1 : (i : Int) < (l.length : Int) := by omega
    have h2 : (0 : Int) ≤ (i : Int) := by omega
    obtain ⟨g1, g2⟩ := ih (i + 1) (wrap64 (s + l[i])) (by omega) (by omega)
    rw [List.drop_eq_getElem_cons hlt, List.foldl_cons]
    refine ⟨ev_succ ?_, ev_succ ?_⟩
    · simp only [impl_total.l0, if_pos h1, if_pos h2, rd_nat l i hlt, wrap64_nat_succ (show i < 9223372036854775807 by omega)]
      exact g1
    · simp only [spec_liSum.l0, if_pos h1, if_pos h2, rd_nat l i hlt, wrap64_nat_succ (show i < 9223372036854775807 by omega)]
      exact g2
theorem total_ev (l : List Int) (hl : l.length ≤ 4611686018427387904) : Ev (fun k => impl_total.f k l) (isum l) := (total_l0 l hl l.length 0 0 (by omega) (by omega)).1
theorem liSum_ev (l : List Int) (hl : l.length ≤ 4611686018427387904) : Ev (fun k => spec_liSum.f k l) (isum l) := (total_l0 l hl l.length 0 0 (by omega) (by omega)).2
theorem isList_ev (l : List Int) (hl : l.length ≤ 4611686018427387904) : Ev (fun k => impl_IsList.f k l) (listB l) := by
  unfold impl_IsList.f impl_within.f listB
  by_cases h1 : 1 ≤ l.length
  · by_cases h2 : l.length ≤ 8
    · simp only [ge_iff_le, if_pos (show (1 : Int) ≤ (l.length : Int) by omega), decide_eq_true (show (l.length : Int) ≤ 8 by omega), decide_eq_true h1, decide_eq_true h2, Option.bind_some, if_true, Bool.true_and]
      exact Ev.bind (allWithin_ev l 0 60 hl) (ev_now _ _ rfl)
    · simp only [ge_iff_le, if_pos (show (1 : Int) ≤ (l.length : Int) by omega), decide_eq_false (show ¬ (l.length : Int) ≤ 8 by omega), decide_eq_false h2, Option.bind_some, Bool.and_false, Bool.false_and]
      exact ev_now _ _ rfl
  · simp only [ge_iff_le, if_neg (show ¬ (1 : Int) ≤ (l.length : Int) by omega), decide_eq_false h1, Option.bind_some, Bool.false_and]
    exact ev_now _ _ rfl
theorem liGood_ev (l : List Int) (hl : l.length ≤ 4611686018427387904) : Ev (fun k => spec_liGood.f k l) (listB l) := by
  unfold spec_liGood.f spec_l1In.f listB
  by_cases h1 : 1 ≤ l.length
  · by_cases h2 : l.length ≤ 8
    · simp only [ge_iff_le, if_pos (show (1 : Int) ≤ (l.length : Int) by omega), decide_eq_true (show (l.length : Int) ≤ 8 by omega), decide_eq_true h1, decide_eq_true h2, Option.bind_some, if_true, Bool.true_and]
      exact Ev.bind (l1All_ev l 0 60 hl) (ev_now _ _ rfl)
    · simp only [ge_iff_le, if_pos (show (1 : Int) ≤ (l.length : Int) by omega), decide_eq_false (show ¬ (l.length : Int) ≤ 8 by omega), decide_eq_false h2, Option.bind_some, Bool.and_false, Bool.false_and]
      exact ev_now _ _ rfl
  · simp only [ge_iff_le, if_neg (show ¬ (1 : Int) ≤ (l.length : Int) by omega), decide_eq_false h1, Option.bind_some, Bool.false_and]
    exact ev_now _ _ rfl
theorem doFit_ev (a b : List Int) (ha : a.length ≤ 4611686018427387904) (hb : b.length ≤ 4611686018427387904) : Ev (fun k => impl_doFit.f k a b) (decide (a.length = b.length) && (isum a == isum b)) := by
  unfold impl_doFit.f
  by_cases h : a.length = b.length
  · simp only [if_pos (show (a.length : Int) = (b.length : Int) by omega), decide_eq_true h, Bool.true_and]
    exact Ev.bind (total_ev a ha) (Ev.bind (total_ev b hb) (ev_now _ _ rfl))
  · simp only [if_neg (show ¬ (a.length : Int) = (b.length : Int) by omega), decide_eq_false h, Bool.false_and]
    exact ev_now _ _ rfl
theorem liFit_ev (a b : List Int) (ha : a.length ≤ 4611686018427387904) (hb : b.length ≤ 4611686018427387904) : Ev (fun k => spec_liFit.f k a b) (decide (a.length = b.length) && (isum a == isum b)) := by
  unfold spec_liFit.f
  by_cases h : a.length = b.length
  · simp only [if_pos (show (a.length : Int) = (b.length : Int) by omega), decide_eq_true h, Bool.true_and]
    exact Ev.bind (liSum_ev a ha) (Ev.bind (liSum_ev b hb) (ev_now _ _ rfl))
  · simp only [if_neg (show ¬ (a.length : Int) = (b.length : Int) by omega), decide_eq_false h, Bool.false_and]
    exact ev_now _ _ rfl
theorem areFitting_ev (a b : List Int) (ha : a.length ≤ 4611686018427387904) (hb : b.length ≤ 4611686018427387904) : Ev (fun k => impl_areFitting.f k a b) (fitB a b) := by
  unfold impl_areFitting.f impl_areLists.f fitB
  cases h1 : listB a with
  | false =>
    have g1 := isList_ev a ha
    rw [h1] at g1
    refine Ev.bind (a := false) (Ev.bind g1 ?_) ?_
    · simp only [Bool.false_eq_true, if_false]; exact ev_now _ _ rfl
    · simp only [Bool.false_eq_true, if_false, Bool.false_and]; exact ev_now _ _ rfl
  | true =>
    have g1 := isList_ev a ha
    rw [h1] at g1
    refine Ev.bind (a := listB b) (Ev.bind g1 ?_) ?_
    · simp only [if_true]; exact Ev.bind (isList_ev b hb) (ev_now _ _ rfl)
    · cases h2 : listB b with
      | false => simp only [Bool.false_eq_true, if_false, Bool.true_and, Bool.false_and]; exact ev_now _ _ rfl
      | true => simp only [if_true, Bool.true_and]; exact Ev.bind (doFit_ev a b ha hb) (ev_now _ _ rfl)
theorem plBoth_ev (a b : List Int) (ha : a.length ≤ 4611686018427387904) (hb : b.length ≤ 4611686018427387904) : Ev (fun k => spec_plBoth.f k a b) (fitB a b) := by
  unfold spec_plBoth.f fitB
  cases h1 : listB a with
  | false =>
    have g1 := liGood_ev a ha
    rw [h1] at g1
    refine Ev.bind g1 ?_
    simp only [Bool.false_eq_true, if_false, Bool.false_and]; exact ev_now _ _ rfl
  | true =>
    have g1 := liGood_ev a ha
    rw [h1] at g1
    refine Ev.bind g1 ?_
    simp only [if_true]
    refine Ev.bind (liGood_ev b hb) ?_
    cases h2 : listB b with
    | false => simp only [Bool.false_eq_true, if_false, Bool.true_and, Bool.false_and]; exact ev_now _ _ rfl
    | true => simp only [if_true, Bool.true_and]; exact Ev.bind (liFit_ev a b ha hb) (ev_now _ _ rfl)
end Go.Proofs.Ytllnieknogficaa.K
namespace Go.Proofs.Ytllnieknogficaa.K
open Go.RowKit Go.Proofs.YtllnieknogficaaW.PrintWords Go.Proofs.YtllnieknogficaaW.PrintLast Go.Proofs.YtllnieknogficaaW.PrintMore
attribute [local go_sem] max2_int min2_int max_two min_two max_three min_three max_four min_four   -- for this text's walks alone
set_option linter.unusedVariables false
set_option linter.unusedSimpArgs false

/-! ### impl_power: function 137 -/
def impl_power.l0 : Nat → Int → Int → Int → Int → Option (Int)
  | 0, _, _, _, _ => none
  | k + 1, x0, x5, x6, x7 => if x7 < x6 then (impl_power.l0 k x0 (wrap64 (x5 * x0)) x6 (wrap64 (x7 + 1))) else (some x5)
def impl_power.f (k : Nat) (a0 : Int) (a1 : Int) : Option (Int) := impl_power.l0 k a0 1 a1 0
theorem impl_power.mono_l : ∀ k, (∀ y0 y1 y2 y3, LeO (impl_power.l0 k y0 y1 y2 y3) (impl_power.l0 (k + 1) y0 y1 y2 y3))
  | 0 => fun _ _ _ _ r h => by simp [impl_power.l0] at h
  | k + 1 => by
    have ih0 := impl_power.mono_l k
    · intro y0 y1 y2 y3
      unfold impl_power.l0
      repeat' first
      | (with_reducible exact ih0 _ _ _ _)
      | (with_reducible exact LeO.refl _)
      | (with_reducible exact LeO.none _)
      | (with_reducible refine LeO.ite ?_ ?_)
      | (with_reducible refine LeO.bind ?_ (fun _ => ?_))
      | exact ih0 _ _ _ _
      | exact LeO.none _
      | refine LeO.ite ?_ ?_
      | refine LeO.bind ?_ (fun _ => ?_)
theorem impl_power.mono : ∀ a0 a1 k, LeO (impl_power.f k a0 a1) (impl_power.f (k + 1) a0 a1) := by
  intro a0 a1 k
  have ih0 := impl_power.mono_l k
  unfold impl_power.f
  repeat' first
      | (with_reducible exact ih0 _ _ _ _)
      | (with_reducible exact LeO.refl _)
      | (with_reducible exact LeO.none _)
      | (with_reducible refine LeO.ite ?_ ?_)
      | (with_reducible refine LeO.bind ?_ (fun _ => ?_))
      | exact ih0 _ _ _ _
      | exact LeO.none _
      | refine LeO.ite ?_ ?_
      | refine LeO.bind ?_ (fun _ => ?_)
set_option maxHeartbeats 8000000 in
set_option maxRecDepth 100000 in
theorem impl_power.calls (k : Nat) (a0 : Int) (a1 : Int) (r : Int) (w : World) (h : impl_power.f k a0 a1 = some r) :
    Calls Try.prog 137 #[.int .i64 a0, .int .i64 a1] w fun e w' => e = .returned (.int .i64 r) ∧ Drawn0 w w' := by
  have H : (impl_power.l0 k a0 1 a1 0) = some r := h
  clear h
  have H' := Aside0.mk H
  clear H
  go_enter Try.func137, Try.ntmps137
  go_wp2
  go_loopg [5, 7] k (fun kq v5 v7 w' => ∃ (x5_1 : Int) (x7_1 : Int), v5 = .int .i64 x5_1 ∧ v7 = .int .i64 x7_1 ∧ Aside0 (impl_power.l0 kq a0 x5_1 a1 x7_1 = some r) ∧ Aside0 (kq ≤ k) ∧ Drawn0 w w')
  case atStart => exact ⟨(1), (0), (by first | rfl | (simp; done) | (simp [*]; done)), (by first | rfl | (simp; done) | (simp [*]; done)), H', ⟨Nat.le_refl _⟩, by repeat (first | exact Drawn0.refl _ | apply Drawn0.step)⟩
  case round =>
    clear H'
    try clear c1
    try clear p2
    obtain ⟨x5_1, x7_1, rfl, rfl, HA, HK1, ⟨m1, rfl⟩⟩ := hrel
    cases gk with
    | zero => exact absurd HA.out (by simp [impl_power.l0])
    | succ k1 =>
      have H := HA.out
      clear HA
      simp only [impl_power.l0] at H
      by_cases c3 : x7_1 < a1
      · rw [if_pos c3] at H
        have c3b0 : decide (x7_1 < a1) = true := decide_eq_true c3
        clear c3
        have H' := Aside0.mk H
        clear H
        go_wp2
        go_roundg k1
        case measure => have := HK1.out; omega
        case rel => exact ⟨(wrap64 (x5_1 * a0)), (wrap64 (x7_1 + 1)), (by first | rfl | (simp; done) | (simp [*]; done)), (by first | rfl | (simp; done) | (simp [*]; done)), H', ⟨by have := HK1.out; omega⟩, by repeat (first | exact Drawn0.refl _ | apply Drawn0.step)⟩
      · rw [if_neg c3] at H
        have c3b0 : decide (x7_1 < a1) = false := decide_eq_false c3
        clear c3
        obtain rfl := Option.some.inj H
        go_wp2
        go_ret
        exact ⟨by first | rfl | (simp; done) | (simp [*]; done), by repeat (first | exact Drawn0.refl _ | apply Drawn0.step)⟩

end Go.Proofs.Ytllnieknogficaa.K
namespace Go.Proofs.Ytllnieknogficaa.K
open Go.RowKit Go.Proofs.YtllnieknogficaaW.PrintWords Go.Proofs.YtllnieknogficaaW.PrintLast Go.Proofs.YtllnieknogficaaW.PrintMore
attribute [local go_sem] max2_int min2_int max_two min_two max_three min_three max_four min_four   -- for this text's walks alone
set_option linter.unusedVariables false
set_option linter.unusedSimpArgs false

/-! ### spec_syPower: function 131 -/
def spec_syPower.l0 : Nat → Int → Int → Int → Option (Int)
  | 0, _, _, _ => none
  | k + 1, x0, x1, x5 => if x1 > 0 then (spec_syPower.l0 k x0 (wrap64 (x1 - 1)) (wrap64 (x5 * x0))) else (some x5)
def spec_syPower.f (k : Nat) (a0 : Int) (a1 : Int) : Option (Int) := spec_syPower.l0 k a0 a1 1
theorem spec_syPower.mono_l : ∀ k, (∀ y0 y1 y2, LeO (spec_syPower.l0 k y0 y1 y2) (spec_syPower.l0 (k + 1) y0 y1 y2))
  | 0 => fun _ _ _ r h => by simp [spec_syPower.l0] at h
  | k + 1 => by
    have ih0 := spec_syPower.mono_l k
    · intro y0 y1 y2
      unfold spec_syPower.l0
      repeat' first
      | (with_reducible exact ih0 _ _ _)
      | (with_reducible exact LeO.refl _)
      | (with_reducible exact LeO.none _)
      | (with_reducible refine LeO.ite ?_ ?_)
      | (with_reducible refine LeO.bind ?_ (fun _ => ?_))
      | exact ih0 _ _ _
      | exact LeO.none _
      | refine LeO.ite ?_ ?_
      | refine LeO.bind ?_ (fun _ => ?_)
theorem spec_syPower.mono : ∀ a0 a1 k, LeO (spec_syPower.f k a0 a1) (spec_syPower.f (k + 1) a0 a1) := by
  intro a0 a1 k
  have ih0 := spec_syPower.mono_l k
  unfold spec_syPower.f
  repeat' first
      | (with_reducible exact ih0 _ _ _)
      | (with_reducible exact LeO.refl _)
      | (with_reducible exact LeO.none _)
      | (with_reducible refine LeO.ite ?_ ?_)
      | (with_reducible refine LeO.bind ?_ (fun _ => ?_))
      | exact ih0 _ _ _
      | exact LeO.none _
      | refine LeO.ite ?_ ?_
      | refine LeO.bind ?_ (fun _ => ?_)
set_option maxHeartbeats 8000000 in
set_option maxRecDepth 100000 in
theorem spec_syPower.calls (k : Nat) (a0 : Int) (a1 : Int) (r : Int) (w : World) (h : spec_syPower.f k a0 a1 = some r) :
    Calls Try.prog 131 #[.int .i64 a0, .int .i64 a1] w fun e w' => e = .returned (.int .i64 r) ∧ Drawn0 w w' := by
  have H : (spec_syPower.l0 k a0 a1 1) = some r := h
  clear h
  have H' := Aside0.mk H
  clear H
  go_enter Try.func131, Try.ntmps131
  go_wp2
  go_loopg [1, 5] k (fun kq v1 v5 w' => ∃ (x1_1 : Int) (x5_1 : Int), v1 = .int .i64 x1_1 ∧ v5 = .int .i64 x5_1 ∧ Aside0 (spec_syPower.l0 kq a0 x1_1 x5_1 = some r) ∧ Aside0 (kq ≤ k) ∧ Drawn0 w w')
  case atStart => exact ⟨(a1), (1), (by first | rfl | (simp; done) | (simp [*]; done)), (by first | rfl | (simp; done) | (simp [*]; done)), H', ⟨Nat.le_refl _⟩, by repeat (first | exact Drawn0.refl _ | apply Drawn0.step)⟩
  case round =>
    clear H'
    try clear c1
    try clear p2
    obtain ⟨x1_1, x5_1, rfl, rfl, HA, HK1, ⟨m1, rfl⟩⟩ := hrel
    cases gk with
    | zero => exact absurd HA.out (by simp [spec_syPower.l0])
    | succ k1 =>
      have H := HA.out
      clear HA
      simp only [spec_syPower.l0] at H
      by_cases c3 : x1_1 > 0
      · rw [if_pos c3] at H
        have c3b0 : decide (0 < x1_1) = true := decide_eq_true c3
        clear c3
        have H' := Aside0.mk H
        clear H
        go_wp2
        go_roundg k1
        case measure => have := HK1.out; omega
        case rel => exact ⟨(wrap64 (x1_1 - 1)), (wrap64 (x5_1 * a0)), (by first | rfl | (simp; done) | (simp [*]; done)), (by first | rfl | (simp; done) | (simp [*]; done)), H', ⟨by have := HK1.out; omega⟩, by repeat (first | exact Drawn0.refl _ | apply Drawn0.step)⟩
      · rw [if_neg c3] at H
        have c3b0 : decide (0 < x1_1) = false := decide_eq_false c3
        clear c3
        obtain rfl := Option.some.inj H
        go_wp2
        go_ret
        exact ⟨by first | rfl | (simp; done) | (simp [*]; done), by repeat (first | exact Drawn0.refl _ | apply Drawn0.step)⟩

end Go.Proofs.Ytllnieknogficaa.K
namespace Go.Proofs.Ytllnieknogficaa.K
open Go.RowKit Go.Proofs.YtllnieknogficaaW.PrintWords Go.Proofs.YtllnieknogficaaW.PrintLast Go.Proofs.YtllnieknogficaaW.PrintMore
attribute [local go_sem] max2_int min2_int max_two min_two max_three min_three max_four min_four   -- for this text's walks alone
set_option linter.unusedVariables false
set_option linter.unusedSimpArgs false
def powW (x : Int) : Nat → Int
  | 0 => 1
  | n + 1 => wrap64 (powW x n * x)
theorem power_l0 (x : Int) (n : Nat) (hn : n ≤ 4611686018427387904) : ∀ d (i : Nat), i ≤ n → n - i = d → Ev (fun k => impl_power.l0 k x (powW x i) (n : Int) (i : Int)) (powW x n) := by
  intro d
  induction d with
  | zero =>
    intro i hi hd
    have : i = n := by omega
    subst this
    refine ev_succ ?_
    simp only [impl_power.l0, if_neg (Int.lt_irrefl _)]
    exact ev_now _ _ rfl
  | succ d ih =>
    intro i hi hd
    refine ev_succ ?_
    simp only [impl_power.l0, if_pos (show (i : Int) < (n : Int) by omega), wrap64_nat_succ (show i < 9223372036854775807 by omega)]
    exact ih (i + 1) (by omega) (by omega)
theorem power_ev (x n : Int) (hn : n ≤ 4611686018427387904) : Ev (fun k => impl_power.f k x n) (powW x n.toNat) := by
  unfold impl_power.f
  by_cases h : 0 ≤ n
  · obtain ⟨m, rfl⟩ : ∃ m : Nat, n = (m : Int) := ⟨n.toNat, by omega⟩
    rw [Int.toNat_natCast]
    exact power_l0 x m (by omega) m 0 (by omega) (by omega)
  · have h1 : n.toNat = 0 := by omega
    rw [h1]
    refine ev_succ ?_
    simp only [impl_power.l0, if_neg (show ¬ (0 : Int) < n by omega)]
    exact ev_now _ _ rfl
theorem syPower_l0 (x : Int) (n : Nat) (hn : n ≤ 4611686018427387904) : ∀ d (i : Nat), i ≤ n → n - i = d → Ev (fun k => spec_syPower.l0 k x ((n - i : Nat) : Int) (powW x i)) (powW x n) := by
  intro d
  induction d with
  | zero =>
    intro i hi hd
    have : i = n := by omega
    subst this
    refine ev_succ ?_
    simp only [spec_syPower.l0, Nat.sub_self, if_neg (show ¬ ((0 : Nat) : Int) > 0 by omega)]
    exact ev_now _ _ rfl
  | succ d ih =>
    intro i hi hd
    have hw : wrap64 (((n - i : Nat) : Int) - 1) = ((n - (i + 1) : Nat) : Int) := by unfold wrap64; omega
    refine ev_succ ?_
    simp only [spec_syPower.l0, if_pos (show ((n - i : Nat) : Int) > 0 by omega), hw]
    exact ih (i + 1) (by omega) (by omega)
theorem syPower_ev (x n : Int) (hn : n ≤ 4611686018427387904) : Ev (fun k => spec_syPower.f k x n) (powW x n.toNat) := by
  unfold spec_syPower.f
  by_cases h : 0 ≤ n
  · obtain ⟨m, rfl⟩ : ∃ m : Nat, n = (m : Int) := ⟨n.toNat, by omega⟩
    rw [Int.toNat_natCast]
    exact syPower_l0 x m (by omega) m 0 (by omega) (by omega)
  · have h1 : n.toNat = 0 := by omega
    rw [h1]
    refine ev_succ ?_
    simp only [spec_syPower.l0, if_neg (show ¬ n > 0 by omega)]
    exact ev_now _ _ rfl
end Go.Proofs.Ytllnieknogficaa.K
namespace Go.Proofs.Ytllnieknogficaa.K
open Go.RowKit Go.Proofs.YtllnieknogficaaW.PrintWords Go.Proofs.YtllnieknogficaaW.PrintLast Go.Proofs.YtllnieknogficaaW.PrintMore
attribute [local go_sem] max2_int min2_int max_two min_two max_three min_three max_four min_four   -- for this text's walks alone
set_option linter.unusedVariables false
set_option linter.unusedSimpArgs false
def gbase (p q u v : Int) : Int := wrap64 (wrap64 (powW (wrap64 (u * v)) q.toNat * wrap64 (powW u (wrap64 (wrap64 (p - q) - 1)).toNat - powW v (wrap64 (wrap64 (p - q) - 1)).toNat)) * wrap64 (u - v))
def gfrom (ps o : List Int) (f t : Nat) (b : Int) (n : Nat) : Int := (List.range n).foldl (fun s (i : Nat) => if i ≠ f ∧ i ≠ t then wrap64 (s * powW (o.getD i 0) (ps.getD i 0).toNat) else s) b
def gterm (ps : List Int) (f t : Nat) (o : List Int) : Int := gfrom ps o f t (gbase (ps.getD f 0) (ps.getD t 0) (o.getD f 0) (o.getD t 0)) o.length
/-- A box that holds a row of whole numbers of the call's own; the row is not the box. -/
structure GOut (W : World) (base bo : Nat) (v : Value) (ts : List Int) : Prop where
  box : W.heap[bo]? = some (.cells #[v] 24 (0, 0))
  row : Kd.R (Kd.int .i64) 3 W base (fun k => k ≠ bo) v ts
theorem GOut.move {W W' : World} {base bo : Nat} {v : Value} {ts : List Int} (h : GOut W base bo v ts) (h1 : W'.heap[bo]? = W.heap[bo]?) (h2 : ∀ k, v.ownBlock = some k → W'.heap[k]? = W.heap[k]?) : GOut W' base bo v ts :=
  ⟨h1.trans h.box, Kd.R_mono (Kd.R_move (Kd.R_tight rfl h.row) (fun k hk => h2 k hk.symm)) (fun k hk => h.row.1 k hk.symm)⟩
theorem blk_newE {w : World} {o : Obj} {g : Nat} (h : g = w.heap.size) : (w.alloc o).heap[g]? = some o := by subst h; exact blk_new w o
theorem size_alloc (w : World) (o : Obj) : (w.alloc o).heap.size = w.heap.size + 1 := by show (w.heap.push o).size = _; simp
theorem size_drew (w : World) : w.drew.heap.size = w.heap.size := rfl
theorem R_empty {w : World} {base g : Nat} {ok : Nat → Prop} (h : w.heap[g]? = some (.cells #[] 3 (0, 0))) (hb : base ≤ g) (hok : ok g) : Kd.R (Kd.int .i64) 3 w base ok (.slice (some ⟨g, 0, none⟩) 0 0) [] :=
  ⟨fun k hk => by simp [Value.ownBlock] at hk; subst hk; exact hok, [], ⟨rfl, .inr ⟨g, 0, #[], rfl, hb, h, Nat.le_refl _, by decide, rfl, rfl⟩⟩, Reps.none _ _⟩
/-- What stands while the orders are visited: a box with the terms, two boxes with powers. -/
structure GInv (base bo b1 b2 : Nat) (p q : Int) (term : List Int → Int) (vs : List (List Int)) (W : World) (own : Nat → Prop) (v : Value) : Prop where
  out : GOut W base bo v (vs.map term)
  x1 : W.heap[b1]? = some (.cells #[.int .i64 p] 3 (0, 0))
  x2 : W.heap[b2]? = some (.cells #[.int .i64 q] 3 (0, 0))
  n1 : v.ownBlock ≠ some b1
  n2 : v.ownBlock ≠ some b2
  own_iff : ∀ k, own k ↔ (k = bo ∨ v.ownBlock = some k ∨ k = b1 ∨ k = b2)
theorem GInv.lt {base bo b1 b2 : Nat} {p q : Int} {term : List Int → Int} {vs : List (List Int)} {W : World} {own : Nat → Prop} {v : Value} (h : GInv base bo b1 b2 p q term vs W own v) (k : Nat) (hk : own k) : k < W.heap.size := by
  rcases (h.own_iff k).1 hk with rfl | hk | rfl | rfl
  · exact blk_lt h.out.box
  · exact Kd.R_lt h.out.row k hk
  · exact blk_lt h.x1
  · exact blk_lt h.x2
theorem GInv.move {base bo b1 b2 : Nat} {p q : Int} {term : List Int → Int} {vs : List (List Int)} {W W' : World} {own : Nat → Prop} {v : Value} (h : GInv base bo b1 b2 p q term vs W own v) (hm : ∀ k, own k → W'.heap[k]? = W.heap[k]?) : GInv base bo b1 b2 p q term vs W' own v :=
  ⟨h.out.move (hm _ ((h.own_iff _).2 (.inl rfl))) (fun k hk => hm k ((h.own_iff _).2 (.inr (.inl hk)))), (hm _ ((h.own_iff _).2 (.inr (.inr (.inl rfl))))).trans h.x1, (hm _ ((h.own_iff _).2 (.inr (.inr (.inr rfl))))).trans h.x2, h.n1, h.n2, h.own_iff⟩
/-- A visit that appends a term. -/
theorem GInv.next {base bo b1 b2 : Nat} {p q : Int} {term : List Int → Int} {vs : List (List Int)} {W W' : World} {own : Nat → Prop} {v v' : Value} {o : List Int} (h : GInv base bo b1 b2 p q term vs W own v) (hn1 : bo ≠ b1) (hn2 : bo ≠ b2)
    (g : GOut W' base bo v' (vs.map term ++ [term o])) (hk : Kept W W' (fun k => k = bo ∨ v.ownBlock = some k)) (hv : ∀ k, v'.ownBlock = some k → v.ownBlock = some k ∨ W.heap.size ≤ k) :
    ∃ own', GInv base bo b1 b2 p q term (vs ++ [o]) W' own' v' ∧ Kept W W' own ∧ ∀ k, own' k → own k ∨ W.heap.size ≤ k := by
  have l1 := blk_lt h.x1
  have l2 := blk_lt h.x2
  refine ⟨fun k => k = bo ∨ v'.ownBlock = some k ∨ k = b1 ∨ k = b2, ⟨?_, ?_, ?_, ?_, ?_, fun k => Iff.rfl⟩, hk.mono (fun k hk => (h.own_iff k).2 (by rcases hk with hk | hk; exact .inl hk; exact .inr (.inl hk))), fun k hk => ?_⟩
  · rw [List.map_append]; exact g
  · exact blk_kept h.x1 hk (fun hh => by rcases hh with hh | hh; exact hn1 hh.symm; exact h.n1 hh)
  · exact blk_kept h.x2 hk (fun hh => by rcases hh with hh | hh; exact hn2 hh.symm; exact h.n2 hh)
  · intro hh; rcases hv _ hh with hh | hh; exact h.n1 hh; omega
  · intro hh; rcases hv _ hh with hh | hh; exact h.n2 hh; omega
  · rcases hk with hk | hk | hk | hk
    · exact .inl ((h.own_iff k).2 (.inl hk))
    · rcases hv _ hk with hh | hh
      · exact .inl ((h.own_iff k).2 (.inr (.inl hh)))
      · exact .inr hh
    · exact .inl ((h.own_iff k).2 (.inr (.inr (.inl hk))))
    · exact .inl ((h.own_iff k).2 (.inr (.inr (.inr hk))))
theorem gfrom_succ (ps o : List Int) (f t : Nat) (b : Int) (n : Nat) : gfrom ps o f t b (n + 1) = if n ≠ f ∧ n ≠ t then wrap64 (gfrom ps o f t b n * powW (o.getD n 0) (ps.getD n 0).toNat) else gfrom ps o f t b n := by
  unfold gfrom; rw [List.range_succ, List.foldl_append]; rfl
set_option maxHeartbeats 4000000 in
set_option maxRecDepth 100000 in
theorem gift_term (w0 W : World) (ps o : List Int) (Ap Ao : Option Addr) (cp co : Nat) (f t : Nat) (am : Int) (bg bq bp bs bo : Nat) (ts : List Int)
    (hps : Kd.C (Kd.int .i64) w0 Ap ps.length ps) (hcp : ps.length ≤ cp) (ho : Kd.C (Kd.int .i64) W Ao o.length o) (hco : o.length ≤ co) (hl : o.length = ps.length) (hl8 : ps.length ≤ 8) (hf : f < ps.length) (ht : t < ps.length) (hsm : ∀ i, ps.getD i 0 ≤ 1000) (hsn : ∀ i, 0 ≤ ps.getD i 0)
    (hbg : W.heap[bg]? = some (.cells #[.int .i64 (f : Int), .int .i64 (t : Int), .int .i64 am] 52 (0, 0))) (hbq : W.heap[bq]? = some (.cells #[.int .i64 (ps.getD t 0)] 3 (0, 0))) (hbp : W.heap[bp]? = some (.cells #[.int .i64 (ps.getD f 0)] 3 (0, 0)))
    (hbs : W.heap[bs]? = some (.cells #[.slice Ap ps.length cp] 24 (0, 0))) (vo : Value) (hbo : GOut W w0.heap.size bo vo ts) (hB : Below w0.heap.size w0 W) (hb0 : w0.heap.size ≤ bo) (hts : (ts.length + 1) * 8 ≤ 140737488355328) :
    Calls Try.prog 136 #[.slice Ao o.length co, .pointer (some ⟨bg, 0, none⟩), .pointer (some ⟨bq, 0, none⟩), .pointer (some ⟨bp, 0, none⟩), .pointer (some ⟨bs, 0, none⟩), .pointer (some ⟨bo, 0, none⟩)] W fun e W' => e = .returned (.tuple #[]) ∧ ∃ v', GOut W' w0.heap.size bo v' (ts ++ [gterm ps f t o]) ∧ Below w0.heap.size w0 W' ∧ Kept W W' (fun k => k = bo ∨ vo.ownBlock = some k) ∧ ∀ k, v'.ownBlock = some k → vo.ownBlock = some k ∨ W.heap.size ≤ k := by
  have cg0 : W.cell? ⟨bg, 0, none⟩ = some (.int .i64 (f : Int)) := (blk_cell hbg 0).trans rfl
  have cg1 : W.cell? ⟨bg, 1, none⟩ = some (.int .i64 (t : Int)) := (blk_cell hbg 1).trans rfl
  have cq : W.cell? ⟨bq, 0, none⟩ = some (.int .i64 (ps.getD t 0)) := (blk_cell hbq 0).trans rfl
  have cp_ : W.cell? ⟨bp, 0, none⟩ = some (.int .i64 (ps.getD f 0)) := (blk_cell hbp 0).trans rfl
  have cs_ : W.cell? ⟨bs, 0, none⟩ = some (.slice Ap ps.length cp) := (blk_cell hbs 0).trans rfl
  have hfz : (0 : Int) ≤ (f : Int) := by omega
  have htz : (0 : Int) ≤ (t : Int) := by omega
  have hfl : (f : Int) < (o.length : Int) := by omega
  have htl : (t : Int) < (o.length : Int) := by omega
  have hps1 := Kd.C_below hps hB
  obtain ⟨Avo, cvo, rfl⟩ := Kd.R_slice hbo.row
  obtain ⟨ads, rfl, _⟩ := Kd.at_int hps1 (f : Int) hfz (by omega)
  obtain ⟨ad, rfl, cu⟩ := Kd.at_int ho (f : Int) hfz hfl
  obtain ⟨ad', e_, cv⟩ := Kd.at_int ho (t : Int) htz htl
  injection e_ with e_
  subst e_
  rw [Int.toNat_natCast, rd_nat_getD] at cu cv
  obtain ⟨u, hu⟩ : ∃ u, o.getD f 0 = u := ⟨_, rfl⟩
  obtain ⟨v, hv⟩ : ∃ v, o.getD t 0 = v := ⟨_, rfl⟩
  obtain ⟨p, hp⟩ : ∃ p, ps.getD f 0 = p := ⟨_, rfl⟩
  obtain ⟨q, hq⟩ : ∃ q, ps.getD t 0 = q := ⟨_, rfl⟩
  rw [hu] at cu
  rw [hv] at cv
  rw [hp] at cp_
  rw [hq] at cq
  have HU := Aside0.mk hu
  have HV := Aside0.mk hv
  have HPp := Aside0.mk hp
  have HQ := Aside0.mk hq
  have HBG := Aside0.mk hbg
  have HBQ := Aside0.mk hbq
  have HBP := Aside0.mk hbp
  have HBS := Aside0.mk hbs
  have HBO := Aside0.mk hbo
  have HO := Aside0.mk ho
  have HPS := Aside0.mk hps1
  have HB := Aside0.mk hB
  have HL := Aside0.mk hl
  have HTS := Aside0.mk hts
  have HB0 := Aside0.mk hb0
  have HSM := Aside0.mk hsm
  have HSN := Aside0.mk hsn
  obtain ⟨k1, e1⟩ := (power_ev (wrap64 (u * v)) q (by have := hsm t; omega)).rounds
  obtain ⟨k2, e2⟩ := (power_ev u (wrap64 (wrap64 (p - q) - 1)) (by have := hsm t; have := hsm f; have := hsn t; have := hsn f; unfold wrap64; omega)).rounds
  obtain ⟨k3, e3⟩ := (power_ev v (wrap64 (wrap64 (p - q) - 1)) (by have := hsm t; have := hsm f; have := hsn t; have := hsn f; unfold wrap64; omega)).rounds
  have E1 := Aside0.mk e1
  have E2 := Aside0.mk e2
  have E3 := Aside0.mk e3
  have hl8' : ps.length ≤ 8 := hl8
  have hlo : o.length ≤ 8 := by omega
  clear hu hv hp hq hbg hbq hbp hbs hbo hsm hsn e1 e2 e3 ho hps hps1 hB hl hts hb0
  go_enter Try.func136, Try.ntmps136
  go_wp2_with fail
  go_quiet (fail)
  go_wp2_with fail
  go_quiet (first | (go_at_call 137; (with_reducible refine (impl_power.calls k1 (wrap64 (u * v)) q _ _ E1.out).mono ?_); rintro e w' ⟨rfl, ⟨nd, rfl⟩⟩; (try first | exact ⟨rfl, _, World.drewN_drewN _ _ _⟩ | exact ⟨rfl, _, Eq.trans (World.drewN_drewN _ _ _) (congrArg (World.drewN _) (Nat.add_assoc _ _ _))⟩)) | (go_at_call 137; (with_reducible refine (impl_power.calls k2 u (wrap64 (wrap64 (p - q) - 1)) _ _ E2.out).mono ?_); rintro e w' ⟨rfl, ⟨nd, rfl⟩⟩; (try first | exact ⟨rfl, _, World.drewN_drewN _ _ _⟩ | exact ⟨rfl, _, Eq.trans (World.drewN_drewN _ _ _) (congrArg (World.drewN _) (Nat.add_assoc _ _ _))⟩)) | (go_at_call 137; (with_reducible refine (impl_power.calls k3 v (wrap64 (wrap64 (p - q) - 1)) _ _ E3.out).mono ?_); rintro e w' ⟨rfl, ⟨nd, rfl⟩⟩; (try first | exact ⟨rfl, _, World.drewN_drewN _ _ _⟩ | exact ⟨rfl, _, Eq.trans (World.drewN_drewN _ _ _) (congrArg (World.drewN _) (Nat.add_assoc _ _ _))⟩)))
  go_wp2_with fail
  go_loopg [9, 10, 11, 47] o.length (fun gg s9 _ _ s47 W' => ∃ i : Nat, s9 = .int .i64 (gfrom ps o f t (gbase p q u v) i) ∧ s47 = .int .i64 (i : Int) ∧ i ≤ o.length ∧ o.length - i ≤ gg ∧ Aside0 (∃ nd, W' = W.drewN nd))
  case atStart => exact ⟨0, rfl, rfl, Nat.zero_le _, by omega, ⟨⟨_, rfl⟩⟩⟩
  case round =>
    obtain ⟨i, rfl, rfl, hi, hgg, ⟨nd, rfl⟩⟩ := hrel
    by_cases hlt : i < o.length
    · have hltz : (i : Int) < (o.length : Int) := by omega
      have hlts : (i : Int) < (ps.length : Int) := by have := HL.out; omega
      have hiz : (0 : Int) ≤ (i : Int) := by omega
      obtain ⟨ad', e_, cx⟩ := Kd.at_int HO.out (i : Int) hiz hltz
      injection e_ with e_
      subst e_
      obtain ⟨ads', e_, cn⟩ := Kd.at_int HPS.out (i : Int) hiz hlts
      injection e_ with e_
      subst e_
      rw [Int.toNat_natCast, rd_nat_getD] at cx cn
      obtain ⟨x, hx⟩ : ∃ x, o.getD i 0 = x := ⟨_, rfl⟩
      obtain ⟨n, hn⟩ : ∃ n, ps.getD i 0 = n := ⟨_, rfl⟩
      rw [hx] at cx
      rw [hn] at cn
      obtain ⟨kp, ep⟩ := (power_ev x n (by have := HSM.out i; omega)).rounds
      have EP := Aside0.mk ep
      have HX := Aside0.mk hx
      have HN := Aside0.mk hn
      clear ep hx hn
      by_cases hif : i = f
      · subst hif
        go_wp2
        go_roundg (o.length - (i + 1))
        case measure => omega
        case rel => exact ⟨i + 1, by rw [gfrom_succ, if_neg (fun h => h.1 rfl)], by go_num, by omega, by omega, ⟨⟨_, rfl⟩⟩⟩
      · have hne : ((i : Int) != (f : Int)) = true := by simp; omega
        by_cases hit : i = t
        · subst hit
          go_wp2
          go_roundg (o.length - (i + 1))
          case measure => omega
          case rel => exact ⟨i + 1, by rw [gfrom_succ, if_neg (fun h => h.2 rfl)], by go_num, by omega, by omega, ⟨⟨_, rfl⟩⟩⟩
        · have hne2 : ((i : Int) != (t : Int)) = true := by simp; omega
          obtain ⟨g, hg⟩ : ∃ g, gfrom ps o f t (gbase p q u v) i = g := ⟨_, rfl⟩
          have HG := Aside0.mk (show gfrom ps o f t (gbase p q u v) (i + 1) = wrap64 (g * powW x n.toNat) from by rw [gfrom_succ, if_pos ⟨hif, hit⟩, HX.out, HN.out, hg])
          have HIF := Aside0.mk hif
          have HIT := Aside0.mk hit
          clear hif hit
          rw [hg]
          clear hg
          go_wp2_with (first | (go_at_call 137; (with_reducible refine (impl_power.calls kp x n _ _ EP.out).mono ?_); rintro e w' ⟨rfl, ⟨nd, rfl⟩⟩))
          go_roundg (o.length - (i + 1))
          case measure => omega
          case rel => exact ⟨i + 1, by rw [HG.out], by go_num, by omega, by omega, ⟨⟨_, by first | rfl | exact World.drewN_drewN _ _ _⟩⟩⟩
    · have hltz : ¬ (i : Int) < (o.length : Int) := by omega
      have hie : i = o.length := by omega
      subst hie
      obtain ⟨z, hz⟩ : ∃ z, gfrom ps o f t (gbase p q u v) o.length = z := ⟨_, rfl⟩
      have HZ := Aside0.mk (show gterm ps f t o = z from by unfold gterm; rw [HU.out, HV.out, HPp.out, HQ.out]; exact hz)
      rw [hz]
      clear hz
      have cbo : W.cell? ⟨bo, 0, none⟩ = some (.slice Avo ts.length cvo) := (blk_cell HBO.out.box 0).trans rfl
      go_wp2_with (first | ((with_reducible refine gate_builtin (b := .append) (xs := #[.tmp 71, .tmp 73]) rfl ?_); at_builtin; refine Kd.R_append (Kd.int .i64) (w0 := w0) w0.heap.size rfl (.tmp 71) (.tmp 73) 24 3 (.int .i64 0) 8 rfl Try.underlying24 info3 rfl (by decide) (by omega) (.slice Avo ts.length cvo) ts z [.int .i64 z] (fun k => k ≠ bo) (fun _ => False) rfl rfl ?aP (fun _ hk => hk.elim) ?aF ?aO ?aB ?aS ?aL ?_; (case aP => exact rfl); (case aB => exact pw_below_drewN HB.out _); (case aF => intro k hk; have h1_ := blk_lt HBO.out.box; have h2_ : W.heap.size ≤ k := hk; omega); (case aO => exact Kd.R_drewN HBO.out.row _); (case aS => exact HB.out.size); (case aL => exact HTS.out); intro v8 w8 ho hb hg hat; obtain ⟨A8, c8, e8⟩ := Kd.R_slice ho; subst e8; have HO8 := Aside0.mk ho; have HB8 := Aside0.mk hb; have HG8 := Aside0.mk hg; have HA8 := Aside0.mk hat; clear ho hb hg hat; apply StopI))
      have hb8 : w8.heap[bo]? = some (.cells #[.slice Avo ts.length cvo] 24 (0, 0)) := blk_grown (w := W.drewN nd) HBO.out.box HG8.out (fun h => HBO.out.row.1 bo h.symm rfl)
      have B8 := Aside0.mk hb8
      have cb8 : w8.cell? ⟨bo, 0, none⟩ = some (.slice Avo ts.length cvo) := (blk_cell hb8 0).trans rfl
      have fb8 := blk_frozen hb8 0
      clear hb8
      unfold Stop
      go_wp2_with ((with_reducible refine gate_store (t := 24) (p := 5) rfl ?_); refine store_event (t := 24) (p := 5) (v := ?vst) (w1 := w8.setCell ⟨bo, 0, none⟩ (.slice A8 (ts ++ [z]).length c8)) ?hg ?ho ?hn ?hr ?_; (case ho => rfl); (case hg => rfl); (case hn => rfl); (case hr => first | (go_simp; done) | (go_simp; rfl)); intro w9 hw; have HW := Aside0.mk hw; clear hw)
      go_end0
      refine ⟨rfl, _, ⟨by rw [HW.out]; exact blk_put B8.out 0 _ rfl, by rw [HW.out, HZ.out]; exact Kd.R_far HO8.out (fun k hk => hk) _⟩, by rw [HW.out]; exact below_set HB8.out HB0.out, ?_, ?_⟩
      · rw [HW.out]
        exact (Kept.of_grown HG8.out ((Kept.refl W _).drewN nd) (fun k hk => .inl (.inr hk))).setCell (.inl (.inl rfl)) _
      · intro k hk
        rcases HA8.out with h | ⟨b, h, hle⟩
        · exact .inl (h ▸ hk)
        · rw [h] at hk
          injection hk with hk
          exact .inr (hk ▸ hle)
end Go.Proofs.Ytllnieknogficaa.K
namespace Go.Proofs.Ytllnieknogficaa.K
open Go.RowKit Go.Proofs.YtllnieknogficaaW.PrintWords Go.Proofs.YtllnieknogficaaW.PrintLast Go.Proofs.YtllnieknogficaaW.PrintMore
attribute [local go_sem] max2_int min2_int max_two min_two max_three min_three max_four min_four   -- for this text's walks alone
set_option linter.unusedVariables false
set_option linter.unusedSimpArgs false

/-! ### impl_has: function 209 -/
def impl_has.f (a0 : Int) (a1 : Int) : Option (Bool) := if 0 ≤ a1 then (some ((Go.bits .and .i64 (shr .i64 a0 a1) 1) == 1)) else (none)
set_option maxHeartbeats 8000000 in
set_option maxRecDepth 100000 in
theorem impl_has.calls (a0 : Int) (a1 : Int) (r : Bool) (w : World) (h : impl_has.f a0 a1 = some r) :
    Calls Try.prog 209 #[.int .i64 a0, .int .i64 a1] w fun e w' => e = .returned (.bool r) ∧ Drawn0 w w' := by
  have H : (if 0 ≤ a1 then (some ((Go.bits .and .i64 (shr .i64 a0 a1) 1) == 1)) else (none)) = some r := h
  clear h
  by_cases c3 : 0 ≤ a1
  · rw [if_pos c3] at H
    have c3b0 := eq_true c3
    have c3b1 : decide (0 ≤ a1) = true := decide_eq_true c3
    clear c3
    obtain ⟨ji4, hji4⟩ : ∃ j_ : Int, (shr .i64 a0 a1) = j_ := ⟨_, rfl⟩
    replace H : (some ((Go.bits .and .i64 (ji4) 1) == 1)) = some r := by first | (rw [hji4] at H; exact H) | (simp only [hji4] at H ⊢; exact H)
    have hji4_ : (a0 / 2 ^ min a1.toNat 64) = ji4 := hji4
    have hji4z : a1 ≤ 64 → (a0 / 2 ^ a1.toNat) = ji4 := shr_small hji4
    obtain rfl := Option.some.inj H
    go_enter Try.func209, Try.ntmps209
    go_wp2
    go_ret
    exact ⟨by first | rfl | (simp; done) | (simp only [← hji4] <;> (first | rfl | simp)) | (simp [*]; done), by repeat (first | exact Drawn0.refl _ | apply Drawn0.step)⟩
  · rw [if_neg c3] at H
    exact absurd H (by simp)

/-- THE ONE PURE STATEMENT of impl_has: yours. -/
def impl_has.Pure : Prop := ∀ (a0 : Int) (a1 : Int), (Lit.int .i64 a0).wf = true → (Lit.int .i64 a1).wf = true → impl_has.f a0 a1 = some true
theorem impl_has.walk (P : impl_has.Pure) (a0 : Int) (a1 : Int) (w : World) (w0 : (Lit.int .i64 a0).wf = true) (w1 : (Lit.int .i64 a1).wf = true) :
    Calls Try.prog 209 #[.int .i64 a0, .int .i64 a1] w fun e w' => e = .returned (.bool true) ∧ Below w.heap.size w w' := by
  have h := P a0 a1 w0 w1
  refine (impl_has.calls a0 a1 true w h).mono ?_
  rintro e w' ⟨rfl, hd⟩
  exact ⟨rfl, hd.below⟩

end Go.Proofs.Ytllnieknogficaa.K
namespace Go.Proofs.Ytllnieknogficaa.K
open Go.RowKit Go.Proofs.YtllnieknogficaaW.PrintWords Go.Proofs.YtllnieknogficaaW.PrintLast Go.Proofs.YtllnieknogficaaW.PrintMore
attribute [local go_sem] max2_int min2_int max_two min_two max_three min_three max_four min_four   -- for this text's walks alone
set_option linter.unusedVariables false
set_option linter.unusedSimpArgs false

/-! ### slices_Clone_int_int: function 199 -/
def slices_Clone_int_int.f (l0 : List Int) : Option (List Int) := if l0.length < 17592186044416 then some l0 else none
set_option maxHeartbeats 1000000 in
set_option maxRecDepth 100000 in
theorem slices_Clone_int_int.calls (A0 : Option Addr) (c0 : Nat) (l0 : List Int) (r : List Int) (w : World) (hr0 : Kd.C (Kd.int .i64) w A0 l0.length l0) (hc0 : l0.length ≤ c0) (h : slices_Clone_int_int.f l0 = some r) :
    Calls Try.prog 199 #[.slice A0 l0.length c0] w fun e w' => ∃ v0_ : Value, e = .returned (v0_) ∧ Kd.R (Kd.int .i64) 3 w' w.heap.size (fun _ => True) v0_ r ∧ Below w.heap.size w w' := by
  unfold slices_Clone_int_int.f at h
  by_cases hl : l0.length < 17592186044416
  · rw [if_pos hl] at h
    obtain rfl := Option.some.inj h
    clear h
    have heq := fun (W : World) (n : Nat) => Lib.run_eql_slice_nil (P := Try.prog) W 24 3 A0 n c0 0 0 Try.underlying24
    cases A0 with
    | none =>
      have h0 : l0 = [] := by
        cases l0 with
        | nil => rfl
        | cons x t => obtain ⟨ad, e, _⟩ := hr0.2.2 (by simp); cases e
      subst h0
      clear hr0 hl
      go_enter Try.func199, Try.ntmps199
      go_wp2
      go_ret
      exact ⟨_, rfl, Kd.R_nil _ _ _ _ _, Below.refl _ _⟩
    | some ad =>
      have HR0 := Aside0.mk hr0
      have HL := Aside0.mk hl
      have HB := Aside0.mk (Below.refl w.heap.size w)
      clear hr0 hl
      go_enter Try.func199, Try.ntmps199
      go_wp2_with (first | ((with_reducible refine gate_dst (N := 5) rfl ?_); refine Kd.R_lit (Kd.int .i64) _ 3 ?hg (N := 5) ?hd (xs := ([] : List Int)) (inner := []) (ok := fun _ => True) (okp := fun _ => True) ?hr ?hp (fun _ hk => hk) trivial (Below.refl _ _) (Nat.le_refl _) (by simp) ?_; (case hd => rfl); (case hg => rfl); (case hr => first | (go_simp; done) | (go_simp; rfl)); (case hp => exact (Reps.none _ _)); intro v112 w3 ho4 hb hg_ hnew_; clear hg_ hnew_; have n0_ := Aside0.mk (Kd.R_lower ho4 (below_size (by repeat (first | (with_reducible first | exact HB.out | apply below_alloc | apply pw_below_drewN | apply below_drew1) | exact HB.out)))); have n1_ := Aside0.mk (below_step (by repeat (first | (with_reducible first | exact HB.out | apply below_alloc | apply pw_below_drewN | apply below_drew1) | exact HB.out)) hb); clear HB; have HO113 := n0_; have HB := n1_; clear n0_ n1_; clear hb ho4) | ((with_reducible refine gate_builtin (b := .append) (xs := #[.tmp 5, .tmp 6]) rfl ?_); at_builtin; refine Kd.R_append_rows (Kd.int .i64) (w0 := w) w.heap.size rfl (.tmp 5) (.tmp 6) 24 3 (.int .i64 0) 8 rfl Try.underlying24 info3 rfl (by decide) (by omega) v112 [] l0 _ _ _ (fun _ => True) (fun _ => False) rfl rfl ?aO ?aR (fun _ _ h => h) (fun _ h => h.elim) ?aF ?aB ?aS ?aL ?_; (case aR => repeat (first | exact (Kd.C_below HR0.out HB.out) | (with_reducible refine Kd.C_alloc ?_ _) | (with_reducible refine Kd.C_drewN ?_ _) | (with_reducible refine Kd.C_drew ?_))); (case aB => exact (by repeat (first | (with_reducible first | exact HB.out | apply below_alloc | apply pw_below_drewN | apply below_drew1) | exact HB.out))); (case aF => exact (fun _ _ => trivial)); (case aO => exact (by (with_reducible repeat (first | apply Kd.R_alloc | apply Kd.R_drewN | apply Kd.R_drew)); exact HO113.out)); (case aS => exact (below_size (by repeat (first | (with_reducible first | exact HB.out | apply below_alloc | apply pw_below_drewN | apply below_drew1) | exact HB.out)))); (case aL => have := HL.out; simp only [List.length_nil]; omega); intro v115 w5 ho hb hg hat; have n0_ := Aside0.mk (hb); have n1_ := Aside0.mk (ho); clear HB; clear HO113; have HB := n0_; have HO116 := n1_; clear n0_ n1_; clear ho hb hg hat))
      go_ret
      exact ⟨_, rfl, HO116.out, HB.out⟩
  · rw [if_neg hl] at h
    cases h

end Go.Proofs.Ytllnieknogficaa.K
namespace Go.Proofs.Ytllnieknogficaa.K
open Go.RowKit Go.Proofs.YtllnieknogficaaW.PrintWords Go.Proofs.YtllnieknogficaaW.PrintLast Go.Proofs.YtllnieknogficaaW.PrintMore
attribute [local go_sem] max2_int min2_int max_two min_two max_three min_three max_four min_four   -- for this text's walks alone
set_option linter.unusedVariables false
set_option linter.unusedSimpArgs false
def hasB (u i : Int) : Bool := Go.bits .and .i64 (shr .i64 u i) 1 == 1
def setB (u : Int) (i : Nat) : Int := Go.bits .or .i64 u (IntKind.i64.wrap (2 ^ min i 64))
/-- The orders that go on an order, d places more. -/
def exts (x : List Int) : Nat → Int → List Int → List (List Int)
  | 0, _, o => [o]
  | d + 1, u, o => (List.range x.length).flatMap fun (i : Nat) => if hasB u (i : Int) then [] else exts x d (setB u i) (o ++ [x.getD i 0])
def extsTo (x : List Int) (d : Nat) (u : Int) (o : List Int) (n : Nat) : List (List Int) := (List.range n).flatMap fun (i : Nat) => if hasB u (i : Int) then [] else exts x d (setB u i) (o ++ [x.getD i 0])
theorem extsTo_succ (x : List Int) (d : Nat) (u : Int) (o : List Int) (n : Nat) : extsTo x d u o (n + 1) = extsTo x d u o n ++ (if hasB u (n : Int) then [] else exts x d (setB u n) (o ++ [x.getD n 0])) := by
  unfold extsTo; rw [List.range_succ, List.flatMap_append]; simp only [List.flatMap_cons, List.flatMap_nil, List.append_nil]
theorem extsTo_len (x : List Int) (d : Nat) (u : Int) (o : List Int) : ∀ (m n : Nat), n ≤ m → (extsTo x d u o n).length ≤ (extsTo x d u o m).length
  | 0, n, h => by
    obtain rfl : n = 0 := Nat.le_zero.1 h
    exact Nat.le_refl _
  | m + 1, n, h => by
    by_cases e : n = m + 1
    · subst e; exact Nat.le_refl _
    · have := extsTo_len x d u o m n (by omega)
      rw [extsTo_succ, List.length_append]
      omega
theorem exts_eq (x : List Int) (d : Nat) (u : Int) (o : List Int) : exts x (d + 1) u o = extsTo x d u o x.length := rfl
set_option maxHeartbeats 4000000 in
set_option maxRecDepth 100000 in
theorem orders_extend (g : Nat) (lb : Array Value) (eg : ∀ args w, (callFunc g args).run Try.prog w = .ok (.enter g args) w) (Inv : List (List Int) → World → (Nat → Prop) → Prop) (M : Nat) (w0 : World) (x : List Int) (Ax : Option Addr) (cx : Nat)
    (hx : Kd.C (Kd.int .i64) w0 Ax x.length x) (hcx : x.length ≤ cx) (hlx : x.length ≤ 8) (bx bv be : Nat)
    (hlt : ∀ vs W own, Inv vs W own → ∀ k, own k → k < W.heap.size)
    (hmove : ∀ vs W W' own, Inv vs W own → W.heap.size ≤ W'.heap.size → (∀ k, own k → W'.heap[k]? = W.heap[k]?) → Inv vs W' own)
    (hvisit : ∀ (W : World) (vs : List (List Int)) (own : Nat → Prop) (o : List Int) (Ao : Option Addr) (co : Nat), Inv vs W own → vs.length < M → Below w0.heap.size w0 W → o.length = x.length → Kd.C (Kd.int .i64) W Ao o.length o → o.length ≤ co →
      Calls Try.prog g (#[.slice Ao o.length co] ++ lb) W fun e W' => e = .returned (.tuple #[]) ∧ ∃ own', Inv (vs ++ [o]) W' own' ∧ Below w0.heap.size w0 W' ∧ Kept W W' own ∧ ∀ k, own' k → own k ∨ W.heap.size ≤ k) :
    ∀ (d : Nat) (u : Int) (o : List Int) (vs : List (List Int)) (W : World) (own ok : Nat → Prop) (Ao : Option Addr) (co : Nat), vs.length + (exts x d u o).length ≤ M → o.length + d = x.length → W.heap[bx]? = some (.cells #[.slice Ax x.length cx] 24 (0, 0)) → W.heap[bv]? = some (.cells #[.func (.func g) #[] lb] 100 (0, 0)) →
      W.heap[be]? = some (.cells #[.func (.func 208) #[] #[.pointer (some ⟨bx, 0, none⟩), .pointer (some ⟨bv, 0, none⟩), .pointer (some ⟨be, 0, none⟩)]] 121 (0, 0)) → ¬ own bx → ¬ own bv → ¬ own be →
      Inv vs W own → Below w0.heap.size w0 W → Kd.F (Kd.int .i64) W ok Ao o.length o → (∀ k, ok k → ¬ own k ∧ k < W.heap.size) → o.length ≤ co →
      Calls Try.prog 208 #[.int .i64 u, .slice Ao o.length co, .pointer (some ⟨bx, 0, none⟩), .pointer (some ⟨bv, 0, none⟩), .pointer (some ⟨be, 0, none⟩)] W fun e W' => e = .returned (.tuple #[]) ∧ ∃ own', Inv (vs ++ exts x d u o) W' own' ∧ Below w0.heap.size w0 W' ∧ Kept W W' own ∧ ∀ k, own' k → own k ∨ W.heap.size ≤ k := by
  intro d
  induction d with
  | zero =>
    intro u o vs W own ok Ao co hvm hd hbx hbv hbe hnx hnv hne hI hB hF hok hco
    have cbx := (blk_cell hbx 0).trans rfl
    have cbv := (blk_cell hbv 0).trans rfl
    have hlen : ((o.length : Int) = (x.length : Int)) := by omega
    have HV := Aside0.mk (hvisit W vs own o Ao co hI (by have : (exts x 0 u o).length = 1 := rfl; omega) hB (by omega) (Kd.F_now hF) hco)
    clear hvisit hmove hlt hI hB hF hok hbx hbv hbe hvm
    go_enter Try.func208, Try.ntmps208
    go_wp2_with (refine HV.out.mono ?_; rintro e w1 ⟨rfl, hv⟩)
    (try simp only [Exit.inBlock, Exit.then])
    refine bodyPost_ret (results_none rfl _ _ _) rfl ?_
    exact ⟨rfl, by simpa [exts] using hv⟩
  | succ d ih =>
    intro u o vs W own ok Ao co hvm hd hbx hbv hbe hnx hnv hne hI hB hF hok hco
    obtain ⟨ad, rfl, _⟩ := Kd.at_int hx 0 (by omega) (by omega)
    have cbx := (blk_cell hbx 0).trans rfl
    have hlen : ((o.length : Int) == (x.length : Int)) = false := by rw [beq_eq_false_iff_ne]; omega
    have BX := Aside0.mk hbx
    have BV := Aside0.mk hbv
    have BE := Aside0.mk hbe
    have NX := Aside0.mk hnx
    have NV := Aside0.mk hnv
    have NE := Aside0.mk hne
    have HI0 := Aside0.mk hI
    have HB0 := Aside0.mk hB
    have HF0 := Aside0.mk hF
    have HOK := Aside0.mk hok
    have HCO := Aside0.mk hco
    have HM := Aside0.mk hmove
    have HL := Aside0.mk hlt
    have HX := Aside0.mk hx
    have HD := Aside0.mk hd
    have HLX := Aside0.mk hlx
    have IH := Aside0.mk ih
    have HVM := Aside0.mk hvm
    clear hvisit hmove hlt hI hB hF hok hbx hbv hbe hnx hnv hne ih hx hd hlx hco hvm
    go_enter Try.func208, Try.ntmps208
    go_wp2
    clear hlen
    go_loopg [7, 8, 19] x.length (fun gg _ _ s19 W' => ∃ (i : Nat) (own' : Nat → Prop), s19 = .int .i64 (i : Int) ∧ i ≤ x.length ∧ x.length - i ≤ gg ∧ Aside0 (Inv (vs ++ extsTo x d u o i) W' own') ∧ Aside0 (Below w0.heap.size w0 W') ∧ Aside0 (Kept W W' own) ∧ Aside0 (∀ k, own' k → own k ∨ W.heap.size ≤ k))
    case atStart => exact ⟨0, own, rfl, Nat.zero_le _, by omega, ⟨by simpa [extsTo] using HI0.out⟩, HB0, ⟨Kept.refl W own⟩, ⟨fun k h => .inl h⟩⟩
    case round =>
      obtain ⟨i, own', rfl, hi, hgg, HI, HB, HK, HO⟩ := hrel
      by_cases hlt : i < x.length
      · have hltz : (i : Int) < (x.length : Int) := by omega
        have hiz : (0 : Int) ≤ (i : Int) := by omega
        have HLT := Aside0.mk hlt
        obtain ⟨ad', ea, hxc⟩ := Kd.at_int (Kd.C_below HX.out HB.out) (i : Int) hiz hltz
        injection ea with ea
        subst ea
        rw [Int.toNat_natCast] at hxc
        have hat : rd x (i : Int) = x.getD i 0 := rd_nat_getD x i
        rw [hat] at hxc
        obtain ⟨z, hz⟩ : ∃ z, x.getD i 0 = z := ⟨_, rfl⟩
        rw [hz] at hxc
        have HZ := Aside0.mk hz
        have HH := Aside0.mk (show impl_has.f u (i : Int) = some (hasB u (i : Int)) from by unfold impl_has.f; rw [if_pos hiz]; rfl)
        clear hat hz
        cases hb : hasB u (i : Int) with
        | true =>
          rw [hb] at HH
          go_wp2_with (go_at_call 209; (refine (impl_has.calls u (i : Int) true _ HH.out).mono ?_); rintro e w' ⟨rfl, ⟨nd, rfl⟩⟩)
          go_roundg (x.length - (i + 1))
          case measure => omega
          case rel => exact ⟨i + 1, own', congrArg (Value.int .i64) (wrap64_nat_succ (by have := HLX.out; have := HLT.out; omega)), by have := HLT.out; omega, by have := HLT.out; omega, ⟨by rw [extsTo_succ, hb, if_pos rfl, List.append_nil]; exact HM.out _ _ _ _ HI.out (Nat.le_refl _) (fun _ _ => rfl)⟩, ⟨pw_below_drewN HB.out _⟩, ⟨HK.out.drewN _⟩, HO⟩
        | false =>
          rw [hb] at HH
          have cbe : wr.cell? ⟨be, 0, none⟩ = some (.func (.func 208) #[] #[.pointer (some ⟨bx, 0, none⟩), .pointer (some ⟨bv, 0, none⟩), .pointer (some ⟨be, 0, none⟩)]) := (blk_cell (blk_kept BE.out HK.out NE.out) 0).trans rfl
          go_wp2_with (go_at_call 209; (refine (impl_has.calls u (i : Int) false _ HH.out).mono ?_); rintro e w' ⟨rfl, ⟨nd, rfl⟩⟩)
          have BEr := Aside0.mk (blk_kept BE.out HK.out NE.out)
          have BXr := Aside0.mk (blk_kept BX.out HK.out NX.out)
          have BVr := Aside0.mk (blk_kept BV.out HK.out NV.out)
          have NXr := Aside0.mk (show ¬ own' bx from fun h_ => by have h1_ := HO.out bx h_; have := blk_lt BX.out; rcases h1_ with h1_ | h1_; exact NX.out h1_; omega)
          have NVr := Aside0.mk (show ¬ own' bv from fun h_ => by have h1_ := HO.out bv h_; have := blk_lt BV.out; rcases h1_ with h1_ | h1_; exact NV.out h1_; omega)
          have NEr := Aside0.mk (show ¬ own' be from fun h_ => by have h1_ := HO.out be h_; have := blk_lt BE.out; rcases h1_ with h1_ | h1_; exact NE.out h1_; omega)
          have HCr := Aside0.mk (Kd.F_now (Kd.F_kept HF0.out HK.out (fun k hk => (HOK.out k hk).1)))
          have HREC := Aside0.mk (show ∀ (w6 : World) (gg cap : Nat), Below wr.heap.size wr w6 → Kd.F (Kd.int .i64) w6 (fun k => wr.heap.size ≤ k ∧ k < w6.heap.size) (some ⟨gg, 0, none⟩) (o.length + 1) (o ++ [z]) → o.length + 1 ≤ cap →
              Calls Try.prog 208 #[.int .i64 (Go.bits .or .i64 u (IntKind.i64.wrap (2 ^ min i 64))), .slice (some ⟨gg, 0, none⟩) (o.length + 1) cap, .pointer (some ⟨bx, 0, none⟩), .pointer (some ⟨bv, 0, none⟩), .pointer (some ⟨be, 0, none⟩)] w6 fun e w7 => e = .returned (.tuple #[]) ∧ ∃ own2, Inv (vs ++ extsTo x d u o i ++ exts x d (setB u i) (o ++ [z])) w7 own2 ∧ Below w0.heap.size w0 w7 ∧ Kept w6 w7 own' ∧ (∀ k, own2 k → own' k ∨ w6.heap.size ≤ k) ∧ w7.cell? ⟨be, 0, none⟩ = some (.func (.func 208) #[] #[.pointer (some ⟨bx, 0, none⟩), .pointer (some ⟨bv, 0, none⟩), .pointer (some ⟨be, 0, none⟩)]) from by
            intro w6 gg cap h1 h2 h3
            have hl_ : o.length + 1 = (o ++ [z]).length := by simp
            rw [hl_] at h2 ⊢
            refine (IH.out (setB u i) (o ++ [z]) (vs ++ extsTo x d u o i) w6 own' _ _ cap (by have h1_ := HVM.out; have h2_ := extsTo_len x d u o x.length (i + 1) (by have := HLT.out; omega); rw [exts_eq] at h1_; rw [extsTo_succ, List.length_append, hb, if_neg (by decide), HZ.out] at h2_; rw [List.length_append]; omega) (by have := HD.out; simp; omega) ((h1.block bx (blk_lt BXr.out)).trans BXr.out) ((h1.block bv (blk_lt BVr.out)).trans BVr.out) ((h1.block be (blk_lt BEr.out)).trans BEr.out) NXr.out NVr.out NEr.out (HM.out _ wr w6 own' HI.out h1.size (fun k hk => h1.block k (HL.out _ _ _ HI.out k hk))) (below_then HB.out HB.out.size h1) h2 (fun k hk => ⟨fun ho_ => by have := HL.out _ _ _ HI.out k ho_; have := hk.1; omega, hk.2⟩) (by rw [← hl_]; exact h3)).mono ?_
            rintro e w7 ⟨rfl, own2, hi7, hb7, hk7, ho7⟩
            exact ⟨rfl, own2, hi7, hb7, hk7, ho7, (blk_cell (blk_kept ((h1.block be (blk_lt BEr.out)).trans BEr.out) hk7 NEr.out) 0).trans rfl⟩)
          have HCL := Aside0.mk (show slices_Clone_int_int.f o = some o from by unfold slices_Clone_int_int.f; rw [if_pos (by have := HLX.out; have := HD.out; omega)])
          go_region_held3 (fun w' => w'.cell? ⟨be, 0, none⟩ = some (.func (.func 208) #[] #[.pointer (some ⟨bx, 0, none⟩), .pointer (some ⟨bv, 0, none⟩), .pointer (some ⟨be, 0, none⟩)])) (go_keep)
            (first
              | (go_at_call 199; (refine (slices_Clone_int_int.calls _ _ o o _ ?s1 HCO.out HCL.out).mono ?_); (case s1 => (with_reducible repeat (first | refine Kd.C_alloc ?_ _ | refine Kd.C_drewN ?_ _ | refine Kd.C_drew ?_)); exact HCr.out); rintro e w5 ⟨v5, rfl, ho5, hb5⟩; have KB := Aside0.mk (show Below wr.heap.size wr w5 from below_step (by repeat (first | (with_reducible first | exact (Below.refl _ _) | apply below_alloc | apply pw_below_drewN | apply below_drew1) | exact (Below.refl _ _))) hb5); have R5 := Aside0.mk (show Kd.R (Kd.int .i64) 3 w5 wr.heap.size (fun k => wr.heap.size ≤ k) v5 o from Kd.R_lower (Kd.R_mono (ok' := fun k => wr.heap.size ≤ k) (Kd.R_bound ho5) (fun k hk => Nat.le_trans (below_size (by repeat (first | (with_reducible first | exact (Below.refl _ _) | apply below_alloc | apply pw_below_drewN | apply below_drew1) | exact (Below.refl _ _)))) hk.2.1)) (below_size (by repeat (first | (with_reducible first | exact (Below.refl _ _) | apply below_alloc | apply pw_below_drewN | apply below_drew1) | exact (Below.refl _ _))))); have cb5 : w5.cell? ⟨be, 0, none⟩ = some (.func (.func 208) #[] #[.pointer (some ⟨bx, 0, none⟩), .pointer (some ⟨bv, 0, none⟩), .pointer (some ⟨be, 0, none⟩)]) := (blk_cell ((KB.out.block be (blk_lt BEr.out)).trans BEr.out) 0).trans rfl; have hb5' := Aside0.mk hb5; clear hb5 ho5)
              | ((refine step_append_int (by rfl) (.tmp 34) (.tmp 36) (by rfl) wr.heap.size v5 o z (fun k => wr.heap.size ≤ k) (by rfl) (by (with_reducible repeat (first | apply Kd.R_alloc | apply Kd.R_drewN | apply Kd.R_drew)); exact R5.out) (fun k hk => Nat.le_trans (below_size (by repeat (first | (with_reducible first | exact KB.out | apply below_alloc | apply pw_below_drewN | apply below_drew1) | exact KB.out))) hk) _ 1 (by rfl) (by first | exact (blk_cell (heap_alloc_new _ _) 0) | exact (blk_cell ((hb5'.out.block wr.heap.size (by show _ < (wr.heap.push _).size; simp)).trans (heap_alloc_new _ _)) 0)) (by have := HLX.out; have := HD.out; omega) (below_size (by repeat (first | (with_reducible first | exact KB.out | apply below_alloc | apply pw_below_drewN | apply below_drew1) | exact KB.out))) ?_); intro gg cap w6 ho6 hgrow; have KB6 := Aside0.mk (show Below wr.heap.size wr w6 from Below.grown (by repeat (first | (with_reducible first | exact KB.out | apply below_alloc | apply pw_below_drewN | apply below_drew1) | exact KB.out)) hgrow (below_size (by repeat (first | (with_reducible first | exact KB.out | apply below_alloc | apply pw_below_drewN | apply below_drew1) | exact KB.out))) (fun k hk => Kd.R_base R5.out k hk)); have cb6 : w6.cell? ⟨be, 0, none⟩ = some (.func (.func 208) #[] #[.pointer (some ⟨bx, 0, none⟩), .pointer (some ⟨bv, 0, none⟩), .pointer (some ⟨be, 0, none⟩)]) := (blk_cell ((KB6.out.block be (blk_lt BEr.out)).trans BEr.out) 0).trans rfl; have F6 := Aside0.mk (Kd.F_bound (Kd.R_F ho6)); have LC6 := Aside0.mk (Kd.R_reads' ho6).2.1; clear ho6 hgrow)
              | (go_at_call 208; (refine (HREC.out w6 gg cap KB6.out F6.out LC6.out).mono ?_); rintro e w7 ⟨rfl, own2, hi7, hb7, hk7, ho7, cb7⟩; have HI7 := Aside0.mk hi7; have HB7 := Aside0.mk hb7; have HK7 := Aside0.mk hk7; have HO7 := Aside0.mk ho7; clear hi7 hb7 hk7 ho7))
          all_goals
            go_wp2
            go_roundg (x.length - (i + 1))
            case measure => omega
            case rel =>
              refine ⟨i + 1, own2, congrArg (Value.int .i64) (wrap64_nat_succ (by have := HLX.out; have := HLT.out; omega)), by have := HLT.out; omega, by have := HLT.out; omega, ⟨?_⟩, HB7, ⟨?_⟩, ⟨?_⟩⟩
              · have h_ := HI7.out
                rw [← HZ.out] at h_
                rw [extsTo_succ, hb, if_neg (by decide), ← List.append_assoc]
                exact h_
              · exact (HK.out.then_ (Kept.of_below KB6.out own) (fun _ h_ => .inl h_)).then_ HK7.out (fun k h_ => HO.out k h_)
              · intro k h_
                rcases HO7.out k h_ with h_ | h_
                · exact HO.out k h_
                · exact .inr (Nat.le_trans (Nat.le_trans HK.out.1 KB6.out.size) h_)
      · have hltz : ¬ (i : Int) < (x.length : Int) := by omega
        have hix : i = x.length := by omega
        subst hix
        go_wp2
        go_end0
        exact ⟨rfl, own', HI.out, HB.out, HK.out, HO.out⟩
end Go.Proofs.Ytllnieknogficaa.K
namespace Go.Proofs.Ytllnieknogficaa.K
open Go.RowKit Go.Proofs.YtllnieknogficaaW.PrintWords Go.Proofs.YtllnieknogficaaW.PrintLast Go.Proofs.YtllnieknogficaaW.PrintMore
attribute [local go_sem] max2_int min2_int max_two min_two max_three min_three max_four min_four   -- for this text's walks alone
set_option linter.unusedVariables false
set_option linter.unusedSimpArgs false

/-! ### impl_arePowers: function 132 -/
def impl_arePowers.f (k : Nat) (l0 : List Int) : Option (Bool) := (impl_within.f (l0.length : Int) 1 4).bind fun t510 => (if t510 = true then ((impl_allWithin.f k l0 0 4).bind fun t511 => (some t511)) else (some false))
theorem impl_arePowers.mono : ∀ a0 k, LeO (impl_arePowers.f k a0) (impl_arePowers.f (k + 1) a0) := by
  intro a0 k
  unfold impl_arePowers.f
  repeat' first
      | (with_reducible exact impl_allWithin.mono _ _ _ _)
      | (with_reducible exact LeO.refl _)
      | (with_reducible exact LeO.none _)
      | (with_reducible refine LeO.ite ?_ ?_)
      | (with_reducible refine LeO.bind ?_ (fun _ => ?_))
      | exact impl_allWithin.mono _ _ _ _
      | exact LeO.none _
      | refine LeO.ite ?_ ?_
      | refine LeO.bind ?_ (fun _ => ?_)
set_option maxHeartbeats 8000000 in
set_option maxRecDepth 100000 in
theorem impl_arePowers.calls (k : Nat) (A0 : Option Addr) (c0 : Nat) (l0 : List Int) (r : Bool) (w : World) (hr0 : Kd.C (Kd.int .i64) w A0 l0.length l0) (hc0 : l0.length ≤ c0) (h : impl_arePowers.f k l0 = some r) :
    Calls Try.prog 132 #[.slice A0 l0.length c0] w fun e w' => e = .returned (.bool r) ∧ Drawn0 w w' := by
  have HR0 := Aside0.mk hr0
  have HC0 := Aside0.mk hc0
  clear hr0 hc0
  have H : ((impl_within.f (l0.length : Int) 1 4).bind fun t510 => (if t510 = true then ((impl_allWithin.f k l0 0 4).bind fun t511 => (some t511)) else (some false))) = some r := h
  clear h
  replace H := Option.bind_eq_some_iff.mp H
  obtain ⟨t510, A20, H⟩ := H
  replace H : (if t510 = true then ((impl_allWithin.f k l0 0 4).bind fun t511 => (some t511)) else (some false)) = some r := H
  have A2 := Aside0.mk A20
  clear A20
  by_cases c3 : t510 = true
  · subst c3
    have H1 : ((impl_allWithin.f k l0 0 4).bind fun t511 => (some t511)) = some r := by rw [if_pos rfl] at H; exact H
    clear H
    have H := H1
    clear H1
    replace H := Option.bind_eq_some_iff.mp H
    obtain ⟨t511, A40, H⟩ := H
    replace H : (some t511) = some r := H
    have A4 := Aside0.mk A40
    clear A40
    obtain rfl := Option.some.inj H
    go_enter Try.func132, Try.ntmps132
    go_wp2_with (first | ((with_reducible refine gate_callee (f := 173) rfl ?_); refine goesL_ (some 5) rfl rfl Try.func173 (by kernel_rfl) rfl #[.int .i64 (l0.length : Int), .int .i64 1, .int .i64 4] rfl (by (try simp only [List.map_toArray, List.map_cons, List.map_nil]); first | done | rfl | (simp only [List.length_drop, List.length_take]; rfl)) ?_; (with_reducible refine (impl_within.calls (l0.length : Int) 1 4 true _ A2.out).mono ?_); rintro e w' ⟨rfl, ⟨nd, rfl⟩⟩; refine ⟨_, rfl, ?_⟩) | (go_at_call 174; (with_reducible refine (impl_allWithin.calls k _ _ l0 0 4 t511 _ ?side1 ?side2 A4.out).mono ?_); (case side1 => repeat (first | exact HR0.out | (with_reducible refine Kd.C_alloc ?_ _) | (with_reducible refine Kd.C_drewN ?_ _) | (with_reducible refine Kd.C_drew ?_))); (case side2 => exact HC0.out); rintro e w' ⟨rfl, ⟨nd, rfl⟩⟩))
    go_ret
    exact ⟨by first | rfl | (simp; done) | (simp [*]; done), by repeat (first | exact Drawn0.refl _ | apply Drawn0.step)⟩
  · replace c3 := Bool.eq_false_iff.mpr c3
    subst c3
    have H1 : (some false) = some r := by rw [if_neg (show ¬ (false = true) by decide)] at H; exact H
    clear H
    have H := H1
    clear H1
    obtain rfl := Option.some.inj H
    go_enter Try.func132, Try.ntmps132
    go_wp2_with (first | ((with_reducible refine gate_callee (f := 173) rfl ?_); refine goesL_ (some 5) rfl rfl Try.func173 (by kernel_rfl) rfl #[.int .i64 (l0.length : Int), .int .i64 1, .int .i64 4] rfl (by (try simp only [List.map_toArray, List.map_cons, List.map_nil]); first | done | rfl | (simp only [List.length_drop, List.length_take]; rfl)) ?_; (with_reducible refine (impl_within.calls (l0.length : Int) 1 4 false _ A2.out).mono ?_); rintro e w' ⟨rfl, ⟨nd, rfl⟩⟩; refine ⟨_, rfl, ?_⟩))
    go_ret
    exact ⟨by first | rfl | (simp; done) | (simp [*]; done), by repeat (first | exact Drawn0.refl _ | apply Drawn0.step)⟩

end Go.Proofs.Ytllnieknogficaa.K
namespace Go.Proofs.Ytllnieknogficaa.K
open Go.RowKit Go.Proofs.YtllnieknogficaaW.PrintWords Go.Proofs.YtllnieknogficaaW.PrintLast Go.Proofs.YtllnieknogficaaW.PrintMore
attribute [local go_sem] max2_int min2_int max_two min_two max_three min_three max_four min_four   -- for this text's walks alone
set_option linter.unusedVariables false
set_option linter.unusedSimpArgs false

/-! ### impl_areArguments: function 133 -/
def impl_areArguments.f (k : Nat) (l0 : List Int) : Option (Bool) := (impl_within.f (l0.length : Int) 1 4).bind fun t512 => (if t512 = true then ((impl_allWithin.f k l0 1 9).bind fun t513 => (some t513)) else (some false))
theorem impl_areArguments.mono : ∀ a0 k, LeO (impl_areArguments.f k a0) (impl_areArguments.f (k + 1) a0) := by
  intro a0 k
  unfold impl_areArguments.f
  repeat' first
      | (with_reducible exact impl_allWithin.mono _ _ _ _)
      | (with_reducible exact LeO.refl _)
      | (with_reducible exact LeO.none _)
      | (with_reducible refine LeO.ite ?_ ?_)
      | (with_reducible refine LeO.bind ?_ (fun _ => ?_))
      | exact impl_allWithin.mono _ _ _ _
      | exact LeO.none _
      | refine LeO.ite ?_ ?_
      | refine LeO.bind ?_ (fun _ => ?_)
set_option maxHeartbeats 8000000 in
set_option maxRecDepth 100000 in
theorem impl_areArguments.calls (k : Nat) (A0 : Option Addr) (c0 : Nat) (l0 : List Int) (r : Bool) (w : World) (hr0 : Kd.C (Kd.int .i64) w A0 l0.length l0) (hc0 : l0.length ≤ c0) (h : impl_areArguments.f k l0 = some r) :
    Calls Try.prog 133 #[.slice A0 l0.length c0] w fun e w' => e = .returned (.bool r) ∧ Drawn0 w w' := by
  have HR0 := Aside0.mk hr0
  have HC0 := Aside0.mk hc0
  clear hr0 hc0
  have H : ((impl_within.f (l0.length : Int) 1 4).bind fun t512 => (if t512 = true then ((impl_allWithin.f k l0 1 9).bind fun t513 => (some t513)) else (some false))) = some r := h
  clear h
  replace H := Option.bind_eq_some_iff.mp H
  obtain ⟨t512, A20, H⟩ := H
  replace H : (if t512 = true then ((impl_allWithin.f k l0 1 9).bind fun t513 => (some t513)) else (some false)) = some r := H
  have A2 := Aside0.mk A20
  clear A20
  by_cases c3 : t512 = true
  · subst c3
    have H1 : ((impl_allWithin.f k l0 1 9).bind fun t513 => (some t513)) = some r := by rw [if_pos rfl] at H; exact H
    clear H
    have H := H1
    clear H1
    replace H := Option.bind_eq_some_iff.mp H
    obtain ⟨t513, A40, H⟩ := H
    replace H : (some t513) = some r := H
    have A4 := Aside0.mk A40
    clear A40
    obtain rfl := Option.some.inj H
    go_enter Try.func133, Try.ntmps133
    go_wp2_with (first | ((with_reducible refine gate_callee (f := 173) rfl ?_); refine goesL_ (some 5) rfl rfl Try.func173 (by kernel_rfl) rfl #[.int .i64 (l0.length : Int), .int .i64 1, .int .i64 4] rfl (by (try simp only [List.map_toArray, List.map_cons, List.map_nil]); first | done | rfl | (simp only [List.length_drop, List.length_take]; rfl)) ?_; (with_reducible refine (impl_within.calls (l0.length : Int) 1 4 true _ A2.out).mono ?_); rintro e w' ⟨rfl, ⟨nd, rfl⟩⟩; refine ⟨_, rfl, ?_⟩) | (go_at_call 174; (with_reducible refine (impl_allWithin.calls k _ _ l0 1 9 t513 _ ?side1 ?side2 A4.out).mono ?_); (case side1 => repeat (first | exact HR0.out | (with_reducible refine Kd.C_alloc ?_ _) | (with_reducible refine Kd.C_drewN ?_ _) | (with_reducible refine Kd.C_drew ?_))); (case side2 => exact HC0.out); rintro e w' ⟨rfl, ⟨nd, rfl⟩⟩))
    go_ret
    exact ⟨by first | rfl | (simp; done) | (simp [*]; done), by repeat (first | exact Drawn0.refl _ | apply Drawn0.step)⟩
  · replace c3 := Bool.eq_false_iff.mpr c3
    subst c3
    have H1 : (some false) = some r := by rw [if_neg (show ¬ (false = true) by decide)] at H; exact H
    clear H
    have H := H1
    clear H1
    obtain rfl := Option.some.inj H
    go_enter Try.func133, Try.ntmps133
    go_wp2_with (first | ((with_reducible refine gate_callee (f := 173) rfl ?_); refine goesL_ (some 5) rfl rfl Try.func173 (by kernel_rfl) rfl #[.int .i64 (l0.length : Int), .int .i64 1, .int .i64 4] rfl (by (try simp only [List.map_toArray, List.map_cons, List.map_nil]); first | done | rfl | (simp only [List.length_drop, List.length_take]; rfl)) ?_; (with_reducible refine (impl_within.calls (l0.length : Int) 1 4 false _ A2.out).mono ?_); rintro e w' ⟨rfl, ⟨nd, rfl⟩⟩; refine ⟨_, rfl, ?_⟩))
    go_ret
    exact ⟨by first | rfl | (simp; done) | (simp [*]; done), by repeat (first | exact Drawn0.refl _ | apply Drawn0.step)⟩

end Go.Proofs.Ytllnieknogficaa.K
namespace Go.Proofs.Ytllnieknogficaa.K
open Go.RowKit Go.Proofs.YtllnieknogficaaW.PrintWords Go.Proofs.YtllnieknogficaaW.PrintLast Go.Proofs.YtllnieknogficaaW.PrintMore
attribute [local go_sem] max2_int min2_int max_two min_two max_three min_three max_four min_four   -- for this text's walks alone
set_option linter.unusedVariables false
set_option linter.unusedSimpArgs false

/-! ### spec_syGiven: function 128 -/
def spec_syGiven.f (k : Nat) (l0 : List Int) (l1 : List Int) : Option (Bool) := (spec_l1In.f (l0.length : Int) 1 4).bind fun t454 => (if t454 = true then ((spec_l1All.f k l0 0 4).bind fun t455 => (if t455 = true then (if (l1.length : Int) = (l0.length : Int) then ((spec_l1All.f k l1 1 9).bind fun t456 => (some t456)) else (some false)) else (some false))) else (some false))
theorem spec_syGiven.mono : ∀ a0 a1 k, LeO (spec_syGiven.f k a0 a1) (spec_syGiven.f (k + 1) a0 a1) := by
  intro a0 a1 k
  unfold spec_syGiven.f
  repeat' first
      | (with_reducible exact spec_l1All.mono _ _ _ _)
      | (with_reducible exact LeO.refl _)
      | (with_reducible exact LeO.none _)
      | (with_reducible refine LeO.ite ?_ ?_)
      | (with_reducible refine LeO.bind ?_ (fun _ => ?_))
      | exact spec_l1All.mono _ _ _ _
      | exact LeO.none _
      | refine LeO.ite ?_ ?_
      | refine LeO.bind ?_ (fun _ => ?_)
set_option maxHeartbeats 8000000 in
set_option maxRecDepth 100000 in
theorem spec_syGiven.calls (k : Nat) (A0 : Option Addr) (c0 : Nat) (l0 : List Int) (A1 : Option Addr) (c1 : Nat) (l1 : List Int) (r : Bool) (w : World) (hr0 : Kd.C (Kd.int .i64) w A0 l0.length l0) (hc0 : l0.length ≤ c0) (hr1 : Kd.C (Kd.int .i64) w A1 l1.length l1) (hc1 : l1.length ≤ c1) (h : spec_syGiven.f k l0 l1 = some r) :
    Calls Try.prog 128 #[.slice A0 l0.length c0, .slice A1 l1.length c1] w fun e w' => e = .returned (.bool r) ∧ Drawn0 w w' := by
  have HR0 := Aside0.mk hr0
  have HC0 := Aside0.mk hc0
  clear hr0 hc0
  have HR1 := Aside0.mk hr1
  have HC1 := Aside0.mk hc1
  clear hr1 hc1
  have H : ((spec_l1In.f (l0.length : Int) 1 4).bind fun t454 => (if t454 = true then ((spec_l1All.f k l0 0 4).bind fun t455 => (if t455 = true then (if (l1.length : Int) = (l0.length : Int) then ((spec_l1All.f k l1 1 9).bind fun t456 => (some t456)) else (some false)) else (some false))) else (some false))) = some r := h
  clear h
  replace H := Option.bind_eq_some_iff.mp H
  obtain ⟨t454, A30, H⟩ := H
  replace H : (if t454 = true then ((spec_l1All.f k l0 0 4).bind fun t455 => (if t455 = true then (if (l1.length : Int) = (l0.length : Int) then ((spec_l1All.f k l1 1 9).bind fun t456 => (some t456)) else (some false)) else (some false))) else (some false)) = some r := H
  have A3 := Aside0.mk A30
  clear A30
  by_cases c4 : t454 = true
  · subst c4
    have H1 : ((spec_l1All.f k l0 0 4).bind fun t455 => (if t455 = true then (if (l1.length : Int) = (l0.length : Int) then ((spec_l1All.f k l1 1 9).bind fun t456 => (some t456)) else (some false)) else (some false))) = some r := by rw [if_pos rfl] at H; exact H
    clear H
    have H := H1
    clear H1
    replace H := Option.bind_eq_some_iff.mp H
    obtain ⟨t455, A50, H⟩ := H
    replace H : (if t455 = true then (if (l1.length : Int) = (l0.length : Int) then ((spec_l1All.f k l1 1 9).bind fun t456 => (some t456)) else (some false)) else (some false)) = some r := H
    have A5 := Aside0.mk A50
    clear A50
    by_cases c6 : t455 = true
    · subst c6
      have H1 : (if (l1.length : Int) = (l0.length : Int) then ((spec_l1All.f k l1 1 9).bind fun t456 => (some t456)) else (some false)) = some r := by rw [if_pos rfl] at H; exact H
      clear H
      have H := H1
      clear H1
      by_cases c7 : (l1.length : Int) = (l0.length : Int)
      · rw [if_pos c7] at H
        have c7b0 : ((l1.length : Int) == (l0.length : Int)) = true := beq_iff_eq.mpr c7
        have c7b1 : ((l1.length : Int) != (l0.length : Int)) = false := bne_eq_false_iff_eq.mpr c7
        have c7b2 : (l1.length == l0.length) = true := by first | simpa using c7 | (simp at c7 ⊢; omega)
        clear c7
        replace H := Option.bind_eq_some_iff.mp H
        obtain ⟨t456, A80, H⟩ := H
        replace H : (some t456) = some r := H
        have A8 := Aside0.mk A80
        clear A80
        obtain rfl := Option.some.inj H
        go_enter Try.func128, Try.ntmps128
        go_wp2_with (first | ((with_reducible refine gate_callee (f := 195) rfl ?_); refine goesL_ (some 7) rfl rfl Try.func195 (by kernel_rfl) rfl #[.int .i64 (l0.length : Int), .int .i64 1, .int .i64 4] rfl (by (try simp only [List.map_toArray, List.map_cons, List.map_nil]); first | done | rfl | (simp only [List.length_drop, List.length_take]; rfl)) ?_; (with_reducible refine (spec_l1In.calls (l0.length : Int) 1 4 true _ A3.out).mono ?_); rintro e w' ⟨rfl, ⟨nd, rfl⟩⟩; refine ⟨_, rfl, ?_⟩) | (go_at_call 196; (with_reducible refine (spec_l1All.calls k _ _ l0 0 4 true _ ?side1 ?side2 A5.out).mono ?_); (case side1 => repeat (first | exact HR0.out | (with_reducible refine Kd.C_alloc ?_ _) | (with_reducible refine Kd.C_drewN ?_ _) | (with_reducible refine Kd.C_drew ?_))); (case side2 => exact HC0.out); rintro e w' ⟨rfl, ⟨nd, rfl⟩⟩) | (go_at_call 196; (with_reducible refine (spec_l1All.calls k _ _ l1 1 9 t456 _ ?side1 ?side2 A8.out).mono ?_); (case side1 => repeat (first | exact HR1.out | (with_reducible refine Kd.C_alloc ?_ _) | (with_reducible refine Kd.C_drewN ?_ _) | (with_reducible refine Kd.C_drew ?_))); (case side2 => exact HC1.out); rintro e w' ⟨rfl, ⟨nd, rfl⟩⟩))
        go_ret
        exact ⟨by first | rfl | (simp; done) | (simp [*]; done), by repeat (first | exact Drawn0.refl _ | apply Drawn0.step)⟩
      · rw [if_neg c7] at H
        have c7b0 : ((l1.length : Int) == (l0.length : Int)) = false := beq_eq_false_iff_ne.mpr c7
        have c7b1 : ((l1.length : Int) != (l0.length : Int)) = true := bne_iff_ne.mpr c7
        have c7b2 : (l1.length == l0.length) = false := by first | simpa using c7 | (simp at c7 ⊢; omega)
        obtain rfl := Option.some.inj H
        go_enter Try.func128, Try.ntmps128
        go_wp2_with (first | ((with_reducible refine gate_callee (f := 195) rfl ?_); refine goesL_ (some 7) rfl rfl Try.func195 (by kernel_rfl) rfl #[.int .i64 (l0.length : Int), .int .i64 1, .int .i64 4] rfl (by (try simp only [List.map_toArray, List.map_cons, List.map_nil]); first | done | rfl | (simp only [List.length_drop, List.length_take]; rfl)) ?_; (with_reducible refine (spec_l1In.calls (l0.length : Int) 1 4 true _ A3.out).mono ?_); rintro e w' ⟨rfl, ⟨nd, rfl⟩⟩; refine ⟨_, rfl, ?_⟩) | (go_at_call 196; (with_reducible refine (spec_l1All.calls k _ _ l0 0 4 true _ ?side1 ?side2 A5.out).mono ?_); (case side1 => repeat (first | exact HR0.out | (with_reducible refine Kd.C_alloc ?_ _) | (with_reducible refine Kd.C_drewN ?_ _) | (with_reducible refine Kd.C_drew ?_))); (case side2 => exact HC0.out); rintro e w' ⟨rfl, ⟨nd, rfl⟩⟩))
        go_ret
        exact ⟨by first | rfl | (simp; done) | (simp [*]; done), by repeat (first | exact Drawn0.refl _ | apply Drawn0.step)⟩
    · replace c6 := Bool.eq_false_iff.mpr c6
      subst c6
      have H1 : (some false) = some r := by rw [if_neg (show ¬ (false = true) by decide)] at H; exact H
      clear H
      have H := H1
      clear H1
      obtain rfl := Option.some.inj H
      go_enter Try.func128, Try.ntmps128
      go_wp2_with (first | ((with_reducible refine gate_callee (f := 195) rfl ?_); refine goesL_ (some 7) rfl rfl Try.func195 (by kernel_rfl) rfl #[.int .i64 (l0.length : Int), .int .i64 1, .int .i64 4] rfl (by (try simp only [List.map_toArray, List.map_cons, List.map_nil]); first | done | rfl | (simp only [List.length_drop, List.length_take]; rfl)) ?_; (with_reducible refine (spec_l1In.calls (l0.length : Int) 1 4 true _ A3.out).mono ?_); rintro e w' ⟨rfl, ⟨nd, rfl⟩⟩; refine ⟨_, rfl, ?_⟩) | (go_at_call 196; (with_reducible refine (spec_l1All.calls k _ _ l0 0 4 false _ ?side1 ?side2 A5.out).mono ?_); (case side1 => repeat (first | exact HR0.out | (with_reducible refine Kd.C_alloc ?_ _) | (with_reducible refine Kd.C_drewN ?_ _) | (with_reducible refine Kd.C_drew ?_))); (case side2 => exact HC0.out); rintro e w' ⟨rfl, ⟨nd, rfl⟩⟩))
      go_ret
      exact ⟨by first | rfl | (simp; done) | (simp [*]; done), by repeat (first | exact Drawn0.refl _ | apply Drawn0.step)⟩
  · replace c4 := Bool.eq_false_iff.mpr c4
    subst c4
    have H1 : (some false) = some r := by rw [if_neg (show ¬ (false = true) by decide)] at H; exact H
    clear H
    have H := H1
    clear H1
    obtain rfl := Option.some.inj H
    go_enter Try.func128, Try.ntmps128
    go_wp2_with (first | ((with_reducible refine gate_callee (f := 195) rfl ?_); refine goesL_ (some 7) rfl rfl Try.func195 (by kernel_rfl) rfl #[.int .i64 (l0.length : Int), .int .i64 1, .int .i64 4] rfl (by (try simp only [List.map_toArray, List.map_cons, List.map_nil]); first | done | rfl | (simp only [List.length_drop, List.length_take]; rfl)) ?_; (with_reducible refine (spec_l1In.calls (l0.length : Int) 1 4 false _ A3.out).mono ?_); rintro e w' ⟨rfl, ⟨nd, rfl⟩⟩; refine ⟨_, rfl, ?_⟩))
    go_ret
    exact ⟨by first | rfl | (simp; done) | (simp [*]; done), by repeat (first | exact Drawn0.refl _ | apply Drawn0.step)⟩

end Go.Proofs.Ytllnieknogficaa.K
namespace Go.Proofs.Ytllnieknogficaa.K
open Go.RowKit Go.Proofs.YtllnieknogficaaW.PrintWords Go.Proofs.YtllnieknogficaaW.PrintLast Go.Proofs.YtllnieknogficaaW.PrintMore
attribute [local go_sem] max2_int min2_int max_two min_two max_three min_three max_four min_four   -- for this text's walks alone
set_option linter.unusedVariables false
set_option linter.unusedSimpArgs false

/-! ### spec_l1Own: function 169 -/
def spec_l1Own.f (l0 : List Int) : Option (List Int) := (some (([] : List Int) : List Int)).bind fun y111 => (if y111.length + l0.length < 17592186044416 then (some (y111 ++ l0)) else (none))
set_option maxHeartbeats 8000000 in
set_option maxRecDepth 100000 in
theorem spec_l1Own.calls (A0 : Option Addr) (c0 : Nat) (l0 : List Int) (r : List Int) (w : World) (hr0 : Kd.C (Kd.int .i64) w A0 l0.length l0) (hc0 : l0.length ≤ c0) (h : spec_l1Own.f l0 = some r) :
    Calls Try.prog 169 #[.slice A0 l0.length c0] w fun e w' => ∃ v0_ : Value, e = .returned (v0_) ∧ Kd.R (Kd.int .i64) 3 w' w.heap.size (fun _ => True) v0_ r ∧ Below w.heap.size w w' := by
  have HR0 := Aside0.mk hr0
  have HC0 := Aside0.mk hc0
  clear hr0 hc0
  have HB := Aside0.mk (Below.refl w.heap.size w)
  have H : ((some (([] : List Int) : List Int)).bind fun y111 => (if y111.length + l0.length < 17592186044416 then (some (y111 ++ l0)) else (none))) = some r := h
  clear h
  obtain ⟨y111, hy111⟩ : ∃ y_ : List Int, y_ = (([] : List Int)) := ⟨_, rfl⟩
  replace H : (if y111.length + l0.length < 17592186044416 then (some (y111 ++ l0)) else (none)) = some r := by first | (rw [hy111]; with_reducible exact H) | (have H2_ := (Option.bind_some _ _).symm.trans H; rw [hy111]; with_reducible exact H2_) | (have H2_ := (Option.bind_some _ _).symm.trans H; with_reducible exact H2_) | with_reducible exact H | (rw [hy111]; exact H) | exact H
  have Ny111 := Aside0.mk hy111
  clear hy111
  by_cases c2 : y111.length + l0.length < 17592186044416
  · rw [if_pos c2] at H
    have LMc2 := Aside0.mk c2
    clear c2
    obtain ⟨y114, hy114⟩ : ∃ y_ : List Int, y_ = (y111 ++ l0) := ⟨_, rfl⟩
    replace H : (some y114) = some r := by first | (rw [hy114]; with_reducible exact H) | (have H2_ := (Option.bind_some _ _).symm.trans H; rw [hy114]; with_reducible exact H2_) | (have H2_ := (Option.bind_some _ _).symm.trans H; with_reducible exact H2_) | with_reducible exact H | (rw [hy114]; exact H) | exact H
    have Ny114 := Aside0.mk hy114
    clear hy114
    obtain rfl := Option.some.inj H
    go_enter Try.func169, Try.ntmps169
    go_wp2_with (first | ((with_reducible refine gate_dst (N := 3) rfl ?_); refine Kd.R_lit (Kd.int .i64) _ 3 ?hg (N := 3) ?hd (xs := ([] : List Int)) (inner := []) (ok := fun _ => True) (okp := fun _ => True) ?hr ?hp (fun _ hk => hk) trivial (Below.refl _ _) (Nat.le_refl _) (by simp) ?_; (case hd => rfl); (case hg => rfl); (case hr => first | (go_simp; done) | (go_simp; rfl)); (case hp => exact (Reps.none _ _)); intro v112 w3 ho4 hb hg_ hnew_; clear hg_ hnew_; (first | rw [← Ny111.out] at ho4 | (simp only [Int.reduceToNat] at ho4; rw [← Ny111.out] at ho4)); have n0_ := Aside0.mk (Kd.R_lower ho4 (below_size (by repeat (first | (with_reducible first | exact HB.out | apply below_alloc | apply pw_below_drewN | apply below_drew1) | exact HB.out)))); have n1_ := Aside0.mk (below_step (by repeat (first | (with_reducible first | exact HB.out | apply below_alloc | apply pw_below_drewN | apply below_drew1) | exact HB.out)) hb); clear HB; have HO113 := n0_; have HB := n1_; clear n0_ n1_; clear hb ho4) | ((with_reducible refine gate_builtin (b := .append) (xs := #[.tmp 3, .tmp 4]) rfl ?_); at_builtin; refine Kd.R_append_rows (Kd.int .i64) (w0 := w) w.heap.size rfl (.tmp 3) (.tmp 4) 24 3 (.int .i64 0) 8 rfl Try.underlying24 info3 rfl (by decide) (by omega) v112 y111 l0 _ _ _ (fun _ => True) (fun _ => False) rfl rfl ?aO ?aR (fun _ _ h => h) (fun _ h => h.elim) ?aF ?aB ?aS ?aL ?_; (case aR => repeat (first | exact (Kd.C_below HR0.out HB.out) | (with_reducible refine Kd.C_alloc ?_ _) | (with_reducible refine Kd.C_drewN ?_ _) | (with_reducible refine Kd.C_drew ?_))); (case aB => exact (by repeat (first | (with_reducible first | exact HB.out | apply below_alloc | apply pw_below_drewN | apply below_drew1) | exact HB.out))); (case aF => exact (fun _ _ => trivial)); (case aO => exact (by (with_reducible repeat (first | apply Kd.R_alloc | apply Kd.R_drewN | apply Kd.R_drew)); exact HO113.out)); (case aS => exact (below_size (by repeat (first | (with_reducible first | exact HB.out | apply below_alloc | apply pw_below_drewN | apply below_drew1) | exact HB.out)))); (case aL => have := LMc2.out; omega); intro v115 w5 ho hb hg hat; rw [← Ny114.out] at ho; have n0_ := Aside0.mk (hb); have n1_ := Aside0.mk (ho); clear HB; clear HO113; have HB := n0_; have HO116 := n1_; clear n0_ n1_; clear ho hb hg hat))
    go_ret
    exact ⟨_, by first | rfl | (simp [errW_none, errW_some] <;> rfl) | (simp [*, errW_none, errW_some] <;> rfl), by (with_reducible repeat (first | apply Kd.R_alloc | apply Kd.R_drewN | apply Kd.R_drew)); exact HO116.out, by repeat (first | (with_reducible first | exact HB.out | apply below_alloc | apply pw_below_drewN | apply below_drew1) | exact HB.out)⟩
  · rw [if_neg c2] at H
    exact absurd H (by simp)

end Go.Proofs.Ytllnieknogficaa.K
namespace Go.Proofs.Ytllnieknogficaa.K
open Go.RowKit Go.Proofs.YtllnieknogficaaW.PrintWords Go.Proofs.YtllnieknogficaaW.PrintLast Go.Proofs.YtllnieknogficaaW.PrintMore
attribute [local go_sem] max2_int min2_int max_two min_two max_three min_three max_four min_four   -- for this text's walks alone
set_option linter.unusedVariables false
set_option linter.unusedSimpArgs false

/-! ### spec_l1Has: function 225 -/
def spec_l1Has.l0 : Nat → Int → List Int → Int → Int → Option (Bool)
  | 0, _, _, _, _ => none
  | k + 1, x1, x7, x8, x9 => if x9 < x8 then (if 0 ≤ x9 then (if x9 < (x7.length : Int) then (if (rd x7 x9) = x1 then (some true) else (spec_l1Has.l0 k x1 x7 x8 (wrap64 (x9 + 1)))) else (none)) else (none)) else (some false)
def spec_l1Has.f (k : Nat) (l0 : List Int) (a1 : Int) : Option (Bool) := spec_l1Has.l0 k a1 l0 (l0.length : Int) 0
theorem spec_l1Has.mono_l : ∀ k, (∀ y0 y1 y2 y3, LeO (spec_l1Has.l0 k y0 y1 y2 y3) (spec_l1Has.l0 (k + 1) y0 y1 y2 y3))
  | 0 => fun _ _ _ _ r h => by simp [spec_l1Has.l0] at h
  | k + 1 => by
    have ih0 := spec_l1Has.mono_l k
    · intro y0 y1 y2 y3
      unfold spec_l1Has.l0
      repeat' first
      | (with_reducible exact ih0 _ _ _ _)
      | (with_reducible exact LeO.refl _)
      | (with_reducible exact LeO.none _)
      | (with_reducible refine LeO.ite ?_ ?_)
      | (with_reducible refine LeO.bind ?_ (fun _ => ?_))
      | exact ih0 _ _ _ _
      | exact LeO.none _
      | refine LeO.ite ?_ ?_
      | refine LeO.bind ?_ (fun _ => ?_)
theorem spec_l1Has.mono : ∀ a0 a1 k, LeO (spec_l1Has.f k a0 a1) (spec_l1Has.f (k + 1) a0 a1) := by
  intro a0 a1 k
  have ih0 := spec_l1Has.mono_l k
  unfold spec_l1Has.f
  repeat' first
      | (with_reducible exact ih0 _ _ _ _)
      | (with_reducible exact LeO.refl _)
      | (with_reducible exact LeO.none _)
      | (with_reducible refine LeO.ite ?_ ?_)
      | (with_reducible refine LeO.bind ?_ (fun _ => ?_))
      | exact ih0 _ _ _ _
      | exact LeO.none _
      | refine LeO.ite ?_ ?_
      | refine LeO.bind ?_ (fun _ => ?_)
set_option maxHeartbeats 8000000 in
set_option maxRecDepth 100000 in
theorem spec_l1Has.calls (k : Nat) (A0 : Option Addr) (c0 : Nat) (l0 : List Int) (a1 : Int) (r : Bool) (w : World) (hr0 : Kd.C (Kd.int .i64) w A0 l0.length l0) (hc0 : l0.length ≤ c0) (h : spec_l1Has.f k l0 a1 = some r) :
    Calls Try.prog 225 #[.slice A0 l0.length c0, .int .i64 a1] w fun e w' => e = .returned (.bool r) ∧ Drawn0 w w' := by
  have HR0 := Aside0.mk hr0
  have HC0 := Aside0.mk hc0
  clear hr0 hc0
  have H : (spec_l1Has.l0 k a1 l0 (l0.length : Int) 0) = some r := h
  clear h
  have H' := Aside0.mk H
  clear H
  go_enter Try.func225, Try.ntmps225
  go_wp2
  go_loopg [9] k (fun kq v9 w' => ∃ (x9_1 : Int), v9 = .int .i64 x9_1 ∧ Aside0 (spec_l1Has.l0 kq a1 l0 (l0.length : Int) x9_1 = some r) ∧ Aside0 (kq ≤ k) ∧ Drawn0 w w')
  case atStart => exact ⟨(0), (by first | rfl | (simp; done) | (simp [*]; done)), H', ⟨Nat.le_refl _⟩, by repeat (first | exact Drawn0.refl _ | apply Drawn0.step)⟩
  case round =>
    clear H'
    try clear c2
    try clear p2
    obtain ⟨x9_1, rfl, HA, HK1, ⟨m1, rfl⟩⟩ := hrel
    cases gk with
    | zero => exact absurd HA.out (by simp [spec_l1Has.l0])
    | succ k1 =>
      have H := HA.out
      clear HA
      simp only [spec_l1Has.l0] at H
      by_cases c3 : x9_1 < (l0.length : Int)
      · rw [if_pos c3] at H
        have c3b0 : decide (x9_1 < (l0.length : Int)) = true := decide_eq_true c3
        clear c3
        by_cases c4 : 0 ≤ x9_1
        · rw [if_pos c4] at H
          have c4b0 : decide (0 ≤ x9_1) = true := decide_eq_true c4
          clear c4
          by_cases c5 : x9_1 < (l0.length : Int)
          · rw [if_pos c5] at H
            have c5b0 : decide (x9_1 < (l0.length : Int)) = true := decide_eq_true c5
            clear c5
            by_cases c6 : (rd l0 x9_1) = a1
            · rw [if_pos c6] at H
              have c6b0 : ((rd l0 x9_1) == a1) = true := beq_iff_eq.mpr c6
              have c6b1 : ((rd l0 x9_1) != a1) = false := bne_eq_false_iff_eq.mpr c6
              clear c6
              obtain rfl := Option.some.inj H
              have p464 : 0 ≤ (x9_1 : Int) := of_decide_eq_true (by first | (with_reducible assumption) | assumption)
              have q464 : x9_1 < (l0.length : Int) := of_decide_eq_true (by first | (with_reducible assumption) | assumption)
              obtain ⟨ad464, e464, hx464_0⟩ := Kd.at_int HR0.out x9_1 p464 q464
              cases e464
              replace p464 := eq_true p464
              replace q464 := eq_true q464
              go_wp2
              go_ret
              exact ⟨by first | rfl | (simp; done) | (simp [*]; done), by repeat (first | exact Drawn0.refl _ | apply Drawn0.step)⟩
            · rw [if_neg c6] at H
              have c6b0 : ((rd l0 x9_1) == a1) = false := beq_eq_false_iff_ne.mpr c6
              have c6b1 : ((rd l0 x9_1) != a1) = true := bne_iff_ne.mpr c6
              have H' := Aside0.mk H
              clear H
              have p464 : 0 ≤ (x9_1 : Int) := of_decide_eq_true (by first | (with_reducible assumption) | assumption)
              have q464 : x9_1 < (l0.length : Int) := of_decide_eq_true (by first | (with_reducible assumption) | assumption)
              obtain ⟨ad464, e464, hx464_0⟩ := Kd.at_int HR0.out x9_1 p464 q464
              cases e464
              replace p464 := eq_true p464
              replace q464 := eq_true q464
              go_wp2
              go_roundg k1
              case measure => have := HK1.out; omega
              case rel => exact ⟨(wrap64 (x9_1 + 1)), (by first | rfl | (simp; done) | (simp [*]; done)), H', ⟨by have := HK1.out; omega⟩, by repeat (first | exact Drawn0.refl _ | apply Drawn0.step)⟩
          · rw [if_neg c5] at H
            exact absurd H (by simp)
        · rw [if_neg c4] at H
          exact absurd H (by simp)
      · rw [if_neg c3] at H
        have c3b0 : decide (x9_1 < (l0.length : Int)) = false := decide_eq_false c3
        clear c3
        obtain rfl := Option.some.inj H
        go_wp2
        go_ret
        exact ⟨by first | rfl | (simp; done) | (simp [*]; done), by repeat (first | exact Drawn0.refl _ | apply Drawn0.step)⟩

end Go.Proofs.Ytllnieknogficaa.K
namespace Go.Proofs.Ytllnieknogficaa.K
open Go.RowKit Go.Proofs.YtllnieknogficaaW.PrintWords Go.Proofs.YtllnieknogficaaW.PrintLast Go.Proofs.YtllnieknogficaaW.PrintMore
attribute [local go_sem] max2_int min2_int max_two min_two max_three min_three max_four min_four   -- for this text's walks alone
set_option linter.unusedVariables false
set_option linter.unusedSimpArgs false

/-! ### spec_syGoOn: function 207 -/
mutual
def spec_syGoOn.l0 : Nat → List Int → Int → List (List Int) → Int → Option ((List (List Int)))
  | 0, _, _, _, _ => none
  | k + 1, x0, x1, x5, x6 => if x6 < x1 then ((spec_l1Has.f k x0 x6).bind fun t468 => (if t468 = true then (spec_syGoOn.l0 k x0 x1 x5 (wrap64 (x6 + 1))) else ((spec_l1Own.f x0).bind fun t469 => (if t469.length < 17592186044416 then ((spec_syGoOn.f k (t469 ++ [x6]) x1).bind fun t475 => (if x5.length + t475.length < 5864062014805 then (spec_syGoOn.l0 k x0 x1 (x5 ++ t475) (wrap64 (x6 + 1))) else (none))) else (none))))) else (some x5)
def spec_syGoOn.f : Nat → List Int → Int → Option ((List (List Int)))
  | 0, _, _ => none
  | k + 1, l0, a1 => if (l0.length : Int) = a1 then (some (([l0] : List (List Int)))) else (spec_syGoOn.l0 k l0 a1 ([] : List (List Int)) 0)
end
theorem spec_syGoOn.mono_l : ∀ k, (∀ y0 y1, LeO (spec_syGoOn.f k y0 y1) (spec_syGoOn.f (k + 1) y0 y1)) ∧ (∀ y0 y1 y2 y3, LeO (spec_syGoOn.l0 k y0 y1 y2 y3) (spec_syGoOn.l0 (k + 1) y0 y1 y2 y3))
  | 0 => ⟨fun _ _ r h => by simp [spec_syGoOn.f] at h, fun _ _ _ _ r h => by simp [spec_syGoOn.l0] at h⟩
  | k + 1 => by
    obtain ⟨ih0, ih1⟩ := spec_syGoOn.mono_l k
    refine ⟨?_, ?_⟩
    · intro y0 y1
      unfold spec_syGoOn.f
      repeat' first
      | (with_reducible exact ih0 _ _)
      | (with_reducible exact ih1 _ _ _ _)
      | (with_reducible exact spec_l1Has.mono _ _ _)
      | (with_reducible exact LeO.refl _)
      | (with_reducible exact LeO.none _)
      | (with_reducible refine LeO.ite ?_ ?_)
      | (with_reducible refine LeO.bind ?_ (fun _ => ?_))
      | exact ih0 _ _
      | exact ih1 _ _ _ _
      | exact spec_l1Has.mono _ _ _
      | exact LeO.none _
      | refine LeO.ite ?_ ?_
      | refine LeO.bind ?_ (fun _ => ?_)
    · intro y0 y1 y2 y3
      unfold spec_syGoOn.l0
      repeat' first
      | (with_reducible exact ih0 _ _)
      | (with_reducible exact ih1 _ _ _ _)
      | (with_reducible exact spec_l1Has.mono _ _ _)
      | (with_reducible exact LeO.refl _)
      | (with_reducible exact LeO.none _)
      | (with_reducible refine LeO.ite ?_ ?_)
      | (with_reducible refine LeO.bind ?_ (fun _ => ?_))
      | exact ih0 _ _
      | exact ih1 _ _ _ _
      | exact spec_l1Has.mono _ _ _
      | exact LeO.none _
      | refine LeO.ite ?_ ?_
      | refine LeO.bind ?_ (fun _ => ?_)
theorem spec_syGoOn.mono : ∀ a0 a1 k, LeO (spec_syGoOn.f k a0 a1) (spec_syGoOn.f (k + 1) a0 a1) := by
  intro a0 a1 k
  obtain ⟨ih0, ih1⟩ := spec_syGoOn.mono_l k
  exact ih0 a0 a1
set_option maxHeartbeats 8000000 in
set_option maxRecDepth 100000 in
theorem spec_syGoOn.calls (k : Nat) : ∀ (P0_ : Nat → Prop) (A0 : Option Addr) (c0 : Nat) (l0 : List Int) (a1 : Int) (r : List (List Int)) (w : World) (hs0 : Kd.V (Kd.int .i64) 3 w w.heap.size (fun k_ => P0_ k_) (.slice A0 l0.length c0) l0) (h : spec_syGoOn.f k l0 a1 = some r),
    Calls Try.prog 207 #[.slice A0 l0.length c0, .int .i64 a1] w fun e w' => ∃ v0_ : Value, e = .returned (v0_) ∧ Kd.N (Kd.slice 3 (Kd.int .i64)) 24 w' w.heap.size (fun k_ => (P0_ k_ ∨ w.heap.size ≤ k_)) v0_ r ∧ Below w.heap.size w w' := by
  induction k using Nat.strongRecOn with
  | _ k ih =>
  intro P0_ A0 c0 l0 a1 r w hs0 h
  cases k with
  | zero => exact absurd h (by simp [spec_syGoOn.f])
  | succ k =>
  simp only [spec_syGoOn.f] at h
  have HO0 := Aside0.mk (show Kd.V (Kd.int .i64) 3 w w.heap.size (fun k_ => (P0_ k_ ∨ w.heap.size ≤ k_)) (.slice A0 l0.length c0) l0 from Kd.V_mono hs0 (fun k_ hk => .inl hk))
  have HB := Aside0.mk (Below.refl w.heap.size w)
  have H : (if (l0.length : Int) = a1 then (some (([l0] : List (List Int)))) else (spec_syGoOn.l0 k l0 a1 ([] : List (List Int)) 0)) = some r := h
  clear h
  by_cases c3 : (l0.length : Int) = a1
  · rw [if_pos c3] at H
    have c3b0 : ((l0.length : Int) == a1) = true := beq_iff_eq.mpr c3
    have c3b1 : ((l0.length : Int) != a1) = false := bne_eq_false_iff_eq.mpr c3
    clear c3
    obtain ⟨y465, hy465⟩ : ∃ y_ : List (List Int), y_ = (([l0] : List (List Int))) := ⟨_, rfl⟩
    replace H : (some y465) = some r := by first | (rw [hy465]; with_reducible exact H) | (have H2_ := (Option.bind_some _ _).symm.trans H; rw [hy465]; with_reducible exact H2_) | (have H2_ := (Option.bind_some _ _).symm.trans H; with_reducible exact H2_) | with_reducible exact H | (rw [hy465]; exact H) | exact H
    have Ny465 := Aside0.mk hy465
    clear hy465
    obtain rfl := Option.some.inj H
    go_enter Try.func207, Try.ntmps207
    go_wp2_with (first | ((with_reducible refine gate_dst (N := 12) rfl ?_); refine Kd.N_lit (Kd.slice 3 (Kd.int .i64)) _ 24 ?hg (N' := 12) ?hd (xs := ([l0] : List (List Int))) (inner := [.slice A0 l0.length c0]) (ok := (fun k_ => (P0_ k_ ∨ w.heap.size ≤ k_))) (okp := (fun k_ => (P0_ k_ ∨ w.heap.size ≤ k_))) ?hr ?hp (fun _ hk => hk) ((show ∀ k_, w.heap.size ≤ k_ → (fun k_ => (P0_ k_ ∨ w.heap.size ≤ k_)) k_ from fun k_ hk => (.inr (Nat.le_trans (below_size (by repeat (first | (with_reducible first | exact HB.out | apply below_alloc | apply pw_below_drewN | apply below_drew1) | exact HB.out))) hk))) _ (Nat.le_refl _)) (Below.refl _ _) (Nat.le_refl _) (by simp) ?_; (case hd => rfl); (case hg => rfl); (case hr => first | (go_simp; done) | (go_simp; rfl)); (case hp => exact (Reps.one (show Kd.FK (Kd.slice 3 (Kd.int .i64)) _ _ l0 [.slice A0 l0.length c0] from (Kd.FK_slice_mk (Kd.V_reads' (Kd.V_mono (ok' := (fun k_ => (P0_ k_ ∨ w.heap.size ≤ k_))) (HO0.out) (fun k_ hk => hk))).2.1 (Kd.V_F (Kd.V_mono (ok' := (fun k_ => (P0_ k_ ∨ w.heap.size ≤ k_))) (HO0.out) (fun k_ hk => hk))))) (Reps.none _ _))); intro v466 w4 ho5 hb hg_ hnew_; clear hg_ hnew_; (first | rw [← Ny465.out] at ho5 | (simp only [Int.reduceToNat] at ho5; rw [← Ny465.out] at ho5)); have n0_ := Aside0.mk (Kd.V_elder' (by (with_reducible repeat (first | apply Kd.V_alloc | apply Kd.V_drewN | apply Kd.V_drew)); exact HO0.out) (Kd.N_base ho5) hb); have n1_ := Aside0.mk (Kd.N_lower ho5 (below_size (by repeat (first | (with_reducible first | exact HB.out | apply below_alloc | apply pw_below_drewN | apply below_drew1) | exact HB.out)))); have n2_ := Aside0.mk (below_step (by repeat (first | (with_reducible first | exact HB.out | apply below_alloc | apply pw_below_drewN | apply below_drew1) | exact HB.out)) hb); clear HO0; clear HB; have HO0 := n0_; have HO467 := n1_; have HB := n2_; clear n0_ n1_ n2_; clear hb ho5))
    go_ret
    exact ⟨_, by first | rfl | (simp [errW_none, errW_some] <;> rfl) | (simp [*, errW_none, errW_some] <;> rfl), by (with_reducible repeat (first | apply Kd.N_alloc | apply Kd.N_drewN | apply Kd.N_drew)); exact HO467.out, by repeat (first | (with_reducible first | exact HB.out | apply below_alloc | apply pw_below_drewN | apply below_drew1) | exact HB.out)⟩
  · rw [if_neg c3] at H
    have c3b0 : ((l0.length : Int) == a1) = false := beq_eq_false_iff_ne.mpr c3
    have c3b1 : ((l0.length : Int) != a1) = true := bne_iff_ne.mpr c3
    have H' := Aside0.mk H
    clear H
    go_enter Try.func207, Try.ntmps207
    go_wp2
    go_loopg [5, 6] k (fun kq v5 v6 w' => ∃ (x5_1 : List (List Int)) (x6_1 : Int), v6 = .int .i64 x6_1 ∧ Aside0 (spec_syGoOn.l0 kq l0 a1 x5_1 x6_1 = some r) ∧ Aside0 (kq ≤ k) ∧ Aside0 (Kd.V (Kd.int .i64) 3 w' w.heap.size (fun k_ => (P0_ k_ ∨ w.heap.size ≤ k_) ∧ some k_ ≠ (v5 : Value).ownBlock) (.slice A0 l0.length c0) l0) ∧ Aside0 (Kd.N (Kd.slice 3 (Kd.int .i64)) 24 w' w.heap.size (fun k_ => (P0_ k_ ∨ w.heap.size ≤ k_)) v5 x5_1) ∧ Aside0 (Below w.heap.size w w'))
    case atStart => exact ⟨(([] : List (List Int))), (0), (by first | rfl | (simp; done) | (simp [*]; done)), H', ⟨Nat.le_refl _⟩, ⟨by (with_reducible repeat (first | apply Kd.V_alloc | apply Kd.V_drewN | apply Kd.V_drew)); exact Kd.V_mono HO0.out (fun _ hk => ⟨hk, (by simp [Value.ownBlock])⟩)⟩, ⟨by first | exact Kd.S_nil _ _ _ _ _ | exact Kd.N_nil _ _ _ _ _ | exact Kd.V_nil _ _ _ _ _ | exact Kd.Q_nil _ _ _ _ _ | exact Kd.R_nil _ _ _ _ _⟩, ⟨by repeat (first | (with_reducible first | exact HB.out | apply below_alloc | apply pw_below_drewN | apply below_drew1) | exact HB.out)⟩⟩
    case round =>
      clear H'
      try clear c2
      try clear p2
      try clear c3
      try clear c3b0
      try clear c3b1
      obtain ⟨x5_1, x6_1, rfl, HA, HK1, HO_0, HO_5, HB⟩ := hrel
      cases gk with
      | zero => exact absurd HA.out (by simp [spec_syGoOn.l0])
      | succ k1 =>
        have H := HA.out
        clear HA
        simp only [spec_syGoOn.l0] at H
        by_cases c6 : x6_1 < a1
        · rw [if_pos c6] at H
          have c6b0 : decide (x6_1 < a1) = true := decide_eq_true c6
          clear c6
          replace H := Option.bind_eq_some_iff.mp H
          obtain ⟨t468, A70, H⟩ := H
          replace H : (if t468 = true then (spec_syGoOn.l0 k1 l0 a1 x5_1 (wrap64 (x6_1 + 1))) else ((spec_l1Own.f l0).bind fun t469 => (if t469.length < 17592186044416 then ((spec_syGoOn.f k1 (t469 ++ [x6_1]) a1).bind fun t475 => (if x5_1.length + t475.length < 5864062014805 then (spec_syGoOn.l0 k1 l0 a1 (x5_1 ++ t475) (wrap64 (x6_1 + 1))) else (none))) else (none)))) = some r := H
          have A7 := Aside0.mk A70
          clear A70
          by_cases c8 : t468 = true
          · subst c8
            have H1 : (spec_syGoOn.l0 k1 l0 a1 x5_1 (wrap64 (x6_1 + 1))) = some r := by rw [if_pos rfl] at H; exact H
            clear H
            have H := H1
            clear H1
            have H' := Aside0.mk H
            clear H
            go_wp2_with (first | ((with_reducible refine gate_callee (f := 225) rfl ?_); refine goesL_ (some 20) rfl rfl Try.func225 (by kernel_rfl) rfl #[.slice A0 l0.length c0, .int .i64 x6_1] rfl (by (try simp only [List.map_toArray, List.map_cons, List.map_nil]); first | done | rfl | (simp only [List.length_drop, List.length_take]; rfl)) ?_; (with_reducible refine (spec_l1Has.calls k1 _ _ l0 x6_1 true _ ?side1 ?side2 A7.out).mono ?_); (case side1 => repeat (first | exact (Kd.V_reads' HO_0.out).2.2 | (with_reducible refine Kd.C_alloc ?_ _) | (with_reducible refine Kd.C_drewN ?_ _) | (with_reducible refine Kd.C_drew ?_))); (case side2 => exact (Kd.V_reads' HO_0.out).2.1); rintro e w' ⟨rfl, ⟨nd, rfl⟩⟩; refine ⟨_, rfl, ?_⟩))
            go_roundg k1
            case measure => have := HK1.out; omega
            case rel => exact ⟨(x5_1), (wrap64 (x6_1 + 1)), (by first | rfl | (simp; done) | (simp [*]; done)), H', ⟨by have := HK1.out; omega⟩, ⟨by (with_reducible repeat (first | apply Kd.V_alloc | apply Kd.V_drewN | apply Kd.V_drew)); exact HO_0.out⟩, ⟨by (with_reducible repeat (first | apply Kd.N_alloc | apply Kd.N_drewN | apply Kd.N_drew)); exact HO_5.out⟩, ⟨by repeat (first | (with_reducible first | exact HB.out | apply below_alloc | apply pw_below_drewN | apply below_drew1) | exact HB.out)⟩⟩
          · replace c8 := Bool.eq_false_iff.mpr c8
            subst c8
            have H1 : ((spec_l1Own.f l0).bind fun t469 => (if t469.length < 17592186044416 then ((spec_syGoOn.f k1 (t469 ++ [x6_1]) a1).bind fun t475 => (if x5_1.length + t475.length < 5864062014805 then (spec_syGoOn.l0 k1 l0 a1 (x5_1 ++ t475) (wrap64 (x6_1 + 1))) else (none))) else (none))) = some r := by rw [if_neg (show ¬ (false = true) by decide)] at H; exact H
            clear H
            have H := H1
            clear H1
            replace H := Option.bind_eq_some_iff.mp H
            obtain ⟨t469, A90, H⟩ := H
            replace H : (if t469.length < 17592186044416 then ((spec_syGoOn.f k1 (t469 ++ [x6_1]) a1).bind fun t475 => (if x5_1.length + t475.length < 5864062014805 then (spec_syGoOn.l0 k1 l0 a1 (x5_1 ++ t475) (wrap64 (x6_1 + 1))) else (none))) else (none)) = some r := H
            have A9 := Aside0.mk A90
            clear A90
            by_cases c10 : t469.length < 17592186044416
            · rw [if_pos c10] at H
              have LMc10 := Aside0.mk c10
              clear c10
              obtain ⟨y472, hy472⟩ : ∃ y_ : List Int, y_ = (t469 ++ [x6_1]) := ⟨_, rfl⟩
              replace H : ((spec_syGoOn.f k1 y472 a1).bind fun t475 => (if x5_1.length + t475.length < 5864062014805 then (spec_syGoOn.l0 k1 l0 a1 (x5_1 ++ t475) (wrap64 (x6_1 + 1))) else (none))) = some r := by first | (rw [hy472]; with_reducible exact H) | (have H2_ := (Option.bind_some _ _).symm.trans H; rw [hy472]; with_reducible exact H2_) | (have H2_ := (Option.bind_some _ _).symm.trans H; with_reducible exact H2_) | with_reducible exact H | (rw [hy472]; exact H) | exact H
              have Ny472 := Aside0.mk hy472
              clear hy472
              replace H := Option.bind_eq_some_iff.mp H
              obtain ⟨t475, A110, H⟩ := H
              replace H : (if x5_1.length + t475.length < 5864062014805 then (spec_syGoOn.l0 k1 l0 a1 (x5_1 ++ t475) (wrap64 (x6_1 + 1))) else (none)) = some r := H
              have A11 := Aside0.mk A110
              clear A110
              by_cases c12 : x5_1.length + t475.length < 5864062014805
              · rw [if_pos c12] at H
                have LMc12 := Aside0.mk c12
                clear c12
                obtain ⟨y478, hy478⟩ : ∃ y_ : List (List Int), y_ = (x5_1 ++ t475) := ⟨_, rfl⟩
                replace H : (spec_syGoOn.l0 k1 l0 a1 y478 (wrap64 (x6_1 + 1))) = some r := by first | (rw [hy478]; with_reducible exact H) | (have H2_ := (Option.bind_some _ _).symm.trans H; rw [hy478]; with_reducible exact H2_) | (have H2_ := (Option.bind_some _ _).symm.trans H; with_reducible exact H2_) | with_reducible exact H | (rw [hy478]; exact H) | exact H
                have Ny478 := Aside0.mk hy478
                clear hy478
                have H' := Aside0.mk H
                clear H
                go_wp2_with (first | ((with_reducible refine gate_callee (f := 225) rfl ?_); refine goesL_ (some 20) rfl rfl Try.func225 (by kernel_rfl) rfl #[.slice A0 l0.length c0, .int .i64 x6_1] rfl (by (try simp only [List.map_toArray, List.map_cons, List.map_nil]); first | done | rfl | (simp only [List.length_drop, List.length_take]; rfl)) ?_; (with_reducible refine (spec_l1Has.calls k1 _ _ l0 x6_1 false _ ?side1 ?side2 A7.out).mono ?_); (case side1 => repeat (first | exact (Kd.V_reads' HO_0.out).2.2 | (with_reducible refine Kd.C_alloc ?_ _) | (with_reducible refine Kd.C_drewN ?_ _) | (with_reducible refine Kd.C_drew ?_))); (case side2 => exact (Kd.V_reads' HO_0.out).2.1); rintro e w' ⟨rfl, ⟨nd, rfl⟩⟩; refine ⟨_, rfl, ?_⟩) | ((with_reducible refine gate_callee (f := 169) rfl ?_); refine goesL_ (some 24) rfl rfl Try.func169 (by kernel_rfl) rfl #[.slice A0 l0.length c0] rfl (by (try simp only [List.map_toArray, List.map_cons, List.map_nil]); first | done | rfl | (simp only [List.length_drop, List.length_take]; rfl)) ?_; (with_reducible refine (spec_l1Own.calls _ _ l0 t469 _ ?side1 ?side2 A9.out).mono ?_); (case side1 => repeat (first | exact (Kd.V_reads' HO_0.out).2.2 | (with_reducible refine Kd.C_alloc ?_ _) | (with_reducible refine Kd.C_drewN ?_ _) | (with_reducible refine Kd.C_drew ?_))); (case side2 => exact (Kd.V_reads' HO_0.out).2.1); rintro e w13 ⟨v470, rfl, ho0, hb⟩; refine ⟨_, rfl, ?_⟩; have n0_ := Aside0.mk (Kd.V_elder' (by (with_reducible repeat (first | apply Kd.V_alloc | apply Kd.V_drewN | apply Kd.V_drew)); exact HO_0.out) (Kd.R_base ho0) hb); have n1_ := Aside0.mk (Kd.N_elder' (by (with_reducible repeat (first | apply Kd.N_alloc | apply Kd.N_drewN | apply Kd.N_drew)); exact HO_5.out) (Kd.R_base ho0) hb); have n2_ := Aside0.mk (Kd.R_lower (Kd.R_newM (M := fun k_ => (w.heap.size ≤ k_)) ho0 (below_size (by repeat (first | (with_reducible first | exact HB.out | apply below_alloc | apply pw_below_drewN | apply below_drew1) | exact HB.out))) (fun k_ h_ => h_)) (below_size (by repeat (first | (with_reducible first | exact HB.out | apply below_alloc | apply pw_below_drewN | apply below_drew1) | exact HB.out)))); have n3_ := Aside0.mk (below_step (by repeat (first | (with_reducible first | exact HB.out | apply below_alloc | apply pw_below_drewN | apply below_drew1) | exact HB.out)) hb); clear HO_0; clear HO_5; clear HB; have HO_0 := n0_; have HO_5 := n1_; have HO471 := n2_; have HB := n3_; clear n0_ n1_ n2_ n3_; (try clear hb); (try clear hb2); (try clear hk); (try clear hi); (try clear ho0)) | ((with_reducible refine gate_builtin (b := .append) (xs := #[.tmp 24, .tmp 26]) rfl ?_); at_builtin; refine Kd.R_append (Kd.int .i64) (w0 := w) w.heap.size rfl (.tmp 24) (.tmp 26) 24 3 (.int .i64 0) 8 rfl Try.underlying24 info3 rfl (by decide) (by omega) v470 t469 x6_1 [.int .i64 x6_1] (fun k_ => (w.heap.size ≤ k_)) (fun _ => False) rfl rfl ?aP (fun _ hk => hk.elim) ?aF ?aO ?aB ?aS ?aL ?_; (case aP => exact rfl); (case aB => exact (by repeat (first | (with_reducible first | exact HB.out | apply below_alloc | apply pw_below_drewN | apply below_drew1) | exact HB.out))); (case aF => exact (fun k_ hk => (Nat.le_trans (below_size (by repeat (first | (with_reducible first | exact HB.out | apply below_alloc | apply pw_below_drewN | apply below_drew1) | exact HB.out))) hk))); (case aO => exact (by (with_reducible repeat (first | apply Kd.R_alloc | apply Kd.R_drewN | apply Kd.R_drew)); exact Kd.R_mono HO471.out (fun _ hk => hk.1))); (case aS => exact (below_size (by repeat (first | (with_reducible first | exact HB.out | apply below_alloc | apply pw_below_drewN | apply below_drew1) | exact HB.out)))); (case aL => have := LMc10.out; omega); intro v473 w14 ho hb hg hat; rw [← Ny472.out] at ho; have n0_ := Aside0.mk (Kd.V_afterv (ok := (fun k_ => (P0_ k_ ∨ w.heap.size ≤ k_) ∧ some k_ ≠ (u5 : Value).ownBlock)) (by (with_reducible repeat (first | apply Kd.V_alloc | apply Kd.V_drewN | apply Kd.V_drew)); exact HO_0.out) hg hat); have n1_ := Aside0.mk (Kd.N_afterv (ok := (fun k_ => (P0_ k_ ∨ w.heap.size ≤ k_))) (by (with_reducible repeat (first | apply Kd.N_alloc | apply Kd.N_drewN | apply Kd.N_drew)); exact HO_5.out) hg hat); have n2_ := Aside0.mk (hb); have n3_ := Aside0.mk (ho); clear HO_0; clear HO_5; clear HB; clear HO471; have HO_0 := n0_; have HO_5 := n1_; have HB := n2_; have HO474 := n3_; clear n0_ n1_ n2_ n3_; clear ho hb hg hat; obtain ⟨Ao15, co15, eo15⟩ := Kd.R_slice HO474.out; subst eo15) | ((with_reducible refine gate_callee (f := 207) rfl ?_); refine goesL_ (some 29) rfl rfl Try.func207 (by kernel_rfl) rfl #[.slice Ao15 y472.length co15, .int .i64 a1] rfl (by (try simp only [List.map_toArray, List.map_cons, List.map_nil]); first | done | rfl | (simp only [List.length_drop, List.length_take]; rfl)) ?_; (with_reducible refine (ih k1 (by have := HK1.out; omega) (fun k_ => some k_ = (.slice Ao15 y472.length co15 : Value).ownBlock) _ _ y472 a1 t475 _ ?side1 A11.out).mono ?_); (case side1 => exact Kd.R_V (Kd.R_tight rfl (Kd.R_apart' (HO474.out) (Kd.N_typed HO_5.out) (by decide)))); rintro e w16 ⟨v476, rfl, ho0, hb⟩; refine ⟨_, rfl, ?_⟩; have n0_ := Aside0.mk (Kd.V_elder' (by (with_reducible repeat (first | apply Kd.V_alloc | apply Kd.V_drewN | apply Kd.V_drew)); exact HO_0.out) (Kd.N_base ho0) hb); have n1_ := Aside0.mk (Kd.N_elder' (by (with_reducible repeat (first | apply Kd.N_alloc | apply Kd.N_drewN | apply Kd.N_drew)); exact HO_5.out) (Kd.N_base ho0) hb); have n2_ := Aside0.mk (Kd.R_below (by (with_reducible repeat (first | apply Kd.R_alloc | apply Kd.R_drewN | apply Kd.R_drew)); exact HO474.out) hb); have n3_ := Aside0.mk (Kd.N_lower (Kd.N_mono (ok' := fun k_ => (P0_ k_ ∨ w.heap.size ≤ k_) ∧ some k_ ≠ (u5 : Value).ownBlock) ho0 (fun k_ hk_ => ⟨Or.elim hk_ (fun hs_ => (.inr (((Kd.R_apart' (HO474.out) (Kd.N_typed HO_5.out) (by decide)).1 k_ hs_.symm).1))) (fun hn_ => (.inr (Nat.le_trans (below_size (by repeat (first | (with_reducible first | exact HB.out | apply below_alloc | apply pw_below_drewN | apply below_drew1) | exact HB.out))) hn_))), Or.elim hk_ (fun hs_ => ((Kd.R_apart' (HO474.out) (Kd.N_typed HO_5.out) (by decide)).1 k_ hs_.symm).2) (fun hn_ => (Kd.fresh' (Kd.N_lt (by (with_reducible repeat (first | apply Kd.N_alloc | apply Kd.N_drewN | apply Kd.N_drew)); exact HO_5.out)) k_ hn_))⟩)) (below_size (by repeat (first | (with_reducible first | exact HB.out | apply below_alloc | apply pw_below_drewN | apply below_drew1) | exact HB.out)))); have n4_ := Aside0.mk (below_step (by repeat (first | (with_reducible first | exact HB.out | apply below_alloc | apply pw_below_drewN | apply below_drew1) | exact HB.out)) hb); clear HO_0; clear HO_5; clear HO474; clear HB; have HO_0 := n0_; have HO_5 := n1_; have HO474 := n2_; have HO477 := n3_; have HB := n4_; clear n0_ n1_ n2_ n3_ n4_; (try clear hb); (try clear hb2); (try clear hk); (try clear hi); (try clear ho0); obtain ⟨Ao18, co18, eo18⟩ := Kd.N_slice HO477.out; subst eo18) | ((with_reducible refine gate_builtin (b := .append) (xs := #[.tmp 22, .tmp 29]) rfl ?_); at_builtin; refine Kd.N_append_rows (Kd.slice 3 (Kd.int .i64)) (w0 := w) w.heap.size rfl (.tmp 22) (.tmp 29) 37 24 (.slice none 0 0) 24 rfl Try.underlying37 info24 rfl (by decide) (by omega) u5 x5_1 t475 _ _ _ (fun k_ => (P0_ k_ ∨ w.heap.size ≤ k_)) (fun k_ => ((fun k_ => (P0_ k_ ∨ w.heap.size ≤ k_))) k_ ∧ some k_ ≠ (u5 : Value).ownBlock) rfl rfl ?aO ?aR (fun _ hk => hk) ?aF ?aB ?aS ?aL ?_; (case aR => exact (by skip; exact Kd.N_F (Kd.N_mono (ok' := (fun k_ => ((fun k_ => (P0_ k_ ∨ w.heap.size ≤ k_))) k_ ∧ some k_ ≠ (u5 : Value).ownBlock)) (HO477.out) (fun k_ hk => ⟨hk.1, hk.2⟩)))); (case aB => exact (by repeat (first | (with_reducible first | exact HB.out | apply below_alloc | apply pw_below_drewN | apply below_drew1) | exact HB.out))); (case aF => exact (fun k_ hk => (.inr (Nat.le_trans (below_size (by repeat (first | (with_reducible first | exact HB.out | apply below_alloc | apply pw_below_drewN | apply below_drew1) | exact HB.out))) hk)))); (case aO => exact (by (with_reducible repeat (first | apply Kd.N_alloc | apply Kd.N_drewN | apply Kd.N_drew)); exact Kd.N_mono HO_5.out (fun _ hk => hk.1.1))); (case aS => exact (below_size (by repeat (first | (with_reducible first | exact HB.out | apply below_alloc | apply pw_below_drewN | apply below_drew1) | exact HB.out)))); (case aL => have := LMc12.out; omega); intro v479 w17 ho hb hg hat; rw [← Ny478.out] at ho; have n0_ := Aside0.mk (Kd.V_afterv (ok := (fun k_ => (P0_ k_ ∨ w.heap.size ≤ k_) ∧ some k_ ≠ (.slice Ao15 y472.length co15 : Value).ownBlock ∧ some k_ ≠ (.slice Ao18 t475.length co18 : Value).ownBlock)) (by (with_reducible repeat (first | apply Kd.V_alloc | apply Kd.V_drewN | apply Kd.V_drew)); exact Kd.V_mono HO_0.out (fun _ hk => ⟨⟨hk.1.1.1, ⟨hk.1.2, hk.2⟩⟩, hk.1.1.2⟩)) hg hat); have n1_ := Aside0.mk (Kd.R_over' (by (with_reducible repeat (first | apply Kd.R_alloc | apply Kd.R_drewN | apply Kd.R_drew)); exact HO474.out) (Kd.N_typed (by (with_reducible repeat (first | apply Kd.N_alloc | apply Kd.N_drewN | apply Kd.N_drew)); exact HO_5.out)) (by decide) hg); have n2_ := Aside0.mk (Kd.N_afterv (ok := (fun k_ => (P0_ k_ ∨ w.heap.size ≤ k_))) (by (with_reducible repeat (first | apply Kd.N_alloc | apply Kd.N_drewN | apply Kd.N_drew)); exact HO477.out) hg hat); have n3_ := Aside0.mk (hb); have n4_ := Aside0.mk (ho); clear HO_0; clear HO474; clear HO477; clear HB; clear HO_5; have HO_0 := n0_; have HO474 := n1_; have HO477 := n2_; have HB := n3_; have HO480 := n4_; clear n0_ n1_ n2_ n3_ n4_; clear ho hb hg hat))
                go_roundg k1
                case measure => have := HK1.out; omega
                case rel => exact ⟨(y478), (wrap64 (x6_1 + 1)), (by first | rfl | (simp; done) | (simp [*]; done)), H', ⟨by have := HK1.out; omega⟩, ⟨by (with_reducible repeat (first | apply Kd.V_alloc | apply Kd.V_drewN | apply Kd.V_drew)); exact Kd.V_mono HO_0.out (fun _ hk => ⟨hk.1.1, hk.2⟩)⟩, ⟨by (with_reducible repeat (first | apply Kd.N_alloc | apply Kd.N_drewN | apply Kd.N_drew)); exact HO480.out⟩, ⟨by repeat (first | (with_reducible first | exact HB.out | apply below_alloc | apply pw_below_drewN | apply below_drew1) | exact HB.out)⟩⟩
              · rw [if_neg c12] at H
                exact absurd H (by simp)
            · rw [if_neg c10] at H
              exact absurd H (by simp)
        · rw [if_neg c6] at H
          have c6b0 : decide (x6_1 < a1) = false := decide_eq_false c6
          clear c6
          obtain rfl := Option.some.inj H
          go_wp2
          go_ret
          exact ⟨_, by first | rfl | (simp [errW_none, errW_some] <;> rfl) | (simp [*, errW_none, errW_some] <;> rfl), by (with_reducible repeat (first | apply Kd.N_alloc | apply Kd.N_drewN | apply Kd.N_drew)); exact HO_5.out, by repeat (first | (with_reducible first | exact HB.out | apply below_alloc | apply pw_below_drewN | apply below_drew1) | exact HB.out)⟩

end Go.Proofs.Ytllnieknogficaa.K
namespace Go.Proofs.Ytllnieknogficaa.K
open Go.RowKit Go.Proofs.YtllnieknogficaaW.PrintWords Go.Proofs.YtllnieknogficaaW.PrintLast Go.Proofs.YtllnieknogficaaW.PrintMore
attribute [local go_sem] max2_int min2_int max_two min_two max_three min_three max_four min_four   -- for this text's walks alone
set_option linter.unusedVariables false
set_option linter.unusedSimpArgs false

/-! ### spec_syOrders: function 130 -/
def spec_syOrders.f (k : Nat) (a0 : Int) : Option ((List (List Int))) := (spec_syGoOn.f k ([] : List Int) a0).bind fun t481 => (some t481)
theorem spec_syOrders.mono : ∀ a0 k, LeO (spec_syOrders.f k a0) (spec_syOrders.f (k + 1) a0) := by
  intro a0 k
  unfold spec_syOrders.f
  repeat' first
      | (with_reducible exact spec_syGoOn.mono _ _ _)
      | (with_reducible exact LeO.refl _)
      | (with_reducible exact LeO.none _)
      | (with_reducible refine LeO.ite ?_ ?_)
      | (with_reducible refine LeO.bind ?_ (fun _ => ?_))
      | exact spec_syGoOn.mono _ _ _
      | exact LeO.none _
      | refine LeO.ite ?_ ?_
      | refine LeO.bind ?_ (fun _ => ?_)
set_option maxHeartbeats 8000000 in
set_option maxRecDepth 100000 in
theorem spec_syOrders.calls (k : Nat) (a0 : Int) (r : List (List Int)) (w : World) (h : spec_syOrders.f k a0 = some r) :
    Calls Try.prog 130 #[.int .i64 a0] w fun e w' => ∃ v0_ : Value, e = .returned (v0_) ∧ Kd.N (Kd.slice 3 (Kd.int .i64)) 24 w' w.heap.size (fun k_ => (w.heap.size ≤ k_)) v0_ r ∧ Below w.heap.size w w' := by
  have HB := Aside0.mk (Below.refl w.heap.size w)
  have H : ((spec_syGoOn.f k ([] : List Int) a0).bind fun t481 => (some t481)) = some r := h
  clear h
  replace H := Option.bind_eq_some_iff.mp H
  obtain ⟨t481, A20, H⟩ := H
  replace H : (some t481) = some r := H
  have A2 := Aside0.mk A20
  clear A20
  obtain rfl := Option.some.inj H
  go_enter Try.func130, Try.ntmps130
  go_wp2_with (first | ((with_reducible refine gate_callee (f := 207) rfl ?_); refine goesL_ (some 4) rfl rfl Try.func207 (by kernel_rfl) rfl #[.slice none 0 0, .int .i64 a0] rfl (by (try simp only [List.map_toArray, List.map_cons, List.map_nil]); first | done | rfl | (simp only [List.length_drop, List.length_take]; rfl)) ?_; (refine (spec_syGoOn.calls k (fun k_ => False) _ _ ([] : List Int) a0 t481 _ ?side1 A2.out).mono ?_); (case side1 => exact Kd.V_nil _ _ _ _ _); rintro e w3 ⟨v482, rfl, ho0, hb⟩; refine ⟨_, rfl, ?_⟩; have n0_ := Aside0.mk (Kd.N_lower (Kd.N_mono (ok' := fun k_ => (w.heap.size ≤ k_)) ho0 (fun k_ hk_ => Or.elim hk_ (fun hs_ => (hs_).elim) (fun hn_ => (Nat.le_trans (below_size (by repeat (first | (with_reducible first | exact HB.out | apply below_alloc | apply pw_below_drewN | apply below_drew1) | exact HB.out))) hn_)))) (below_size (by repeat (first | (with_reducible first | exact HB.out | apply below_alloc | apply pw_below_drewN | apply below_drew1) | exact HB.out)))); have n1_ := Aside0.mk (below_step (by repeat (first | (with_reducible first | exact HB.out | apply below_alloc | apply pw_below_drewN | apply below_drew1) | exact HB.out)) hb); clear HB; have HO483 := n0_; have HB := n1_; clear n0_ n1_; (try clear hb); (try clear hb2); (try clear hk); (try clear hi); (try clear ho0)))
  go_ret
  exact ⟨_, by first | rfl | (simp [errW_none, errW_some] <;> rfl) | (simp [*, errW_none, errW_some] <;> rfl), by (with_reducible repeat (first | apply Kd.N_alloc | apply Kd.N_drewN | apply Kd.N_drew)); exact HO483.out, by repeat (first | (with_reducible first | exact HB.out | apply below_alloc | apply pw_below_drewN | apply below_drew1) | exact HB.out)⟩

end Go.Proofs.Ytllnieknogficaa.K
namespace Go.Proofs.Ytllnieknogficaa.K
open Go.RowKit Go.Proofs.YtllnieknogficaaW.PrintWords Go.Proofs.YtllnieknogficaaW.PrintLast Go.Proofs.YtllnieknogficaaW.PrintMore
attribute [local go_sem] max2_int min2_int max_two min_two max_three min_three max_four min_four   -- for this text's walks alone
set_option linter.unusedVariables false
set_option linter.unusedSimpArgs false
def powB (l : List Int) : Bool := decide (1 ≤ l.length) && decide (l.length ≤ 4) && l.all fun x => decide (0 ≤ x) && decide (x ≤ 4)
def argB (l : List Int) : Bool := decide (1 ≤ l.length) && decide (l.length ≤ 4) && l.all fun x => decide (1 ≤ x) && decide (x ≤ 9)
/-- Powers and as many arguments. -/
def givB (a x : List Int) : Bool := powB a && (argB x && decide (a.length = x.length))
theorem powB_iff (l : List Int) : powB l = true ↔ 1 ≤ l.length ∧ l.length ≤ 4 ∧ ∀ x ∈ l, 0 ≤ x ∧ x ≤ 4 := by
  simp [powB, List.all_eq_true, and_assoc]
theorem argB_iff (l : List Int) : argB l = true ↔ 1 ≤ l.length ∧ l.length ≤ 4 ∧ ∀ x ∈ l, 1 ≤ x ∧ x ≤ 9 := by
  simp [argB, List.all_eq_true, and_assoc]
theorem givB_iff (a x : List Int) : givB a x = true ↔ powB a = true ∧ argB x = true ∧ a.length = x.length := by
  simp [givB]
theorem arePowers_ev (l : List Int) (hl : l.length ≤ 4611686018427387904) : Ev (fun k => impl_arePowers.f k l) (powB l) := by
  unfold impl_arePowers.f impl_within.f powB
  by_cases h1 : 1 ≤ l.length
  · by_cases h2 : l.length ≤ 4
    · simp only [ge_iff_le, if_pos (show (1 : Int) ≤ (l.length : Int) by omega), decide_eq_true (show (l.length : Int) ≤ 4 by omega), decide_eq_true h1, decide_eq_true h2, Option.bind_some, if_true, Bool.true_and]
      exact Ev.bind (allWithin_ev l 0 4 hl) (ev_now _ _ rfl)
    · simp only [ge_iff_le, if_pos (show (1 : Int) ≤ (l.length : Int) by omega), decide_eq_false (show ¬ (l.length : Int) ≤ 4 by omega), decide_eq_false h2, Option.bind_some, Bool.and_false, Bool.false_and]
      exact ev_now _ _ rfl
  · simp only [ge_iff_le, if_neg (show ¬ (1 : Int) ≤ (l.length : Int) by omega), decide_eq_false h1, Option.bind_some, Bool.false_and]
    exact ev_now _ _ rfl
theorem areArguments_ev (l : List Int) (hl : l.length ≤ 4611686018427387904) : Ev (fun k => impl_areArguments.f k l) (argB l) := by
  unfold impl_areArguments.f impl_within.f argB
  by_cases h1 : 1 ≤ l.length
  · by_cases h2 : l.length ≤ 4
    · simp only [ge_iff_le, if_pos (show (1 : Int) ≤ (l.length : Int) by omega), decide_eq_true (show (l.length : Int) ≤ 4 by omega), decide_eq_true h1, decide_eq_true h2, Option.bind_some, if_true, Bool.true_and]
      exact Ev.bind (allWithin_ev l 1 9 hl) (ev_now _ _ rfl)
    · simp only [ge_iff_le, if_pos (show (1 : Int) ≤ (l.length : Int) by omega), decide_eq_false (show ¬ (l.length : Int) ≤ 4 by omega), decide_eq_false h2, Option.bind_some, Bool.and_false, Bool.false_and]
      exact ev_now _ _ rfl
  · simp only [ge_iff_le, if_neg (show ¬ (1 : Int) ≤ (l.length : Int) by omega), decide_eq_false h1, Option.bind_some, Bool.false_and]
    exact ev_now _ _ rfl
theorem syGiven_ev (a x : List Int) (ha : a.length ≤ 4611686018427387904) (hx : x.length ≤ 4611686018427387904) : Ev (fun k => spec_syGiven.f k a x) (givB a x) := by
  unfold spec_syGiven.f spec_l1In.f givB powB argB
  by_cases h1 : 1 ≤ a.length
  · by_cases h2 : a.length ≤ 4
    · simp only [ge_iff_le, if_pos (show (1 : Int) ≤ (a.length : Int) by omega), decide_eq_true (show (a.length : Int) ≤ 4 by omega), decide_eq_true h1, decide_eq_true h2, Option.bind_some, if_true, Bool.true_and]
      refine Ev.bind (l1All_ev a 0 4 ha) ?_
      cases h3 : a.all fun x => decide (0 ≤ x) && decide (x ≤ 4) with
      | false => simp only [Bool.false_eq_true, if_false, Bool.false_and]; exact ev_now _ _ rfl
      | true =>
        simp only [if_true, Bool.true_and]
        by_cases h4 : a.length = x.length
        · simp only [if_pos (show (x.length : Int) = (a.length : Int) by omega)]
          refine Ev.bind (l1All_ev x 1 9 hx) ?_
          refine ev_now _ _ ?_
          rw [decide_eq_true (show 1 ≤ x.length by omega), decide_eq_true (show x.length ≤ 4 by omega), decide_eq_true h4]
          simp
        · simp only [if_neg (show ¬ (x.length : Int) = (a.length : Int) by omega)]
          rw [decide_eq_false h4, Bool.and_false]
          exact ev_now _ _ rfl
    · simp only [ge_iff_le, if_pos (show (1 : Int) ≤ (a.length : Int) by omega), decide_eq_false (show ¬ (a.length : Int) ≤ 4 by omega), decide_eq_false h2, Option.bind_some, Bool.and_false, Bool.false_and]
      exact ev_now _ _ rfl
  · simp only [ge_iff_le, if_neg (show ¬ (1 : Int) ≤ (a.length : Int) by omega), decide_eq_false h1, Option.bind_some, Bool.false_and]
    exact ev_now _ _ rfl
/-! ### all orders -/
def rng (n : Nat) : List Int := (List.range n).map fun (i : Nat) => (i : Int)
theorem rng_length (n : Nat) : (rng n).length = n := by simp [rng]
theorem rng_getD (n i : Nat) (h : i < n) : (rng n).getD i 0 = (i : Int) := by
  simp [rng, List.getD_eq_getElem?_getD, List.getElem?_map, h]
/-- The orders of places. -/
def idxs (n : Nat) : List (List Int) := exts (rng n) n 0 []
def pick (x : List Int) (i : Int) : Int := x.getD i.toNat 0
theorem exts_map (x : List Int) : ∀ (d : Nat) (u : Int) (o : List Int), exts x d u (o.map (pick x)) = (exts (rng x.length) d u o).map (List.map (pick x)) := by
  intro d
  induction d with
  | zero => intro u o; rfl
  | succ d ih =>
    intro u o
    simp only [exts, rng_length]
    rw [List.map_flatMap]
    have hc : ∀ (l : List Nat) (f g : Nat → List (List Int)), (∀ i ∈ l, f i = g i) → l.flatMap f = l.flatMap g := by
      intro l f g h
      induction l with
      | nil => rfl
      | cons a t iht =>
        rw [List.flatMap_cons, List.flatMap_cons, h a (List.mem_cons_self), iht (fun i hi => h i (List.mem_cons_of_mem _ hi))]
    refine hc _ _ _ (fun i hi => ?_)
    have hi2 : i < x.length := List.mem_range.1 hi
    by_cases hb : hasB u (i : Int) = true
    · rw [if_pos hb, if_pos hb]; rfl
    · rw [if_neg hb, if_neg hb, ← ih, List.map_append, rng_getD _ _ hi2]
      rfl
theorem exts_idxs (x : List Int) : exts x x.length 0 [] = (idxs x.length).map (List.map (pick x)) := exts_map x x.length 0 []
theorem syOrders_ev (n : Nat) (h0 : 1 ≤ n) (h4 : n ≤ 4) : Ev (fun k => spec_syOrders.f k (n : Int)) (idxs n) := by
  refine Ev.of (k := 40) (fun k => spec_syOrders.mono _ _) ?_
  have h : n = 1 ∨ n = 2 ∨ n = 3 ∨ n = 4 := by omega
  rcases h with rfl | rfl | rfl | rfl <;> decide +kernel
theorem idxs_facts (n : Nat) (h0 : 1 ≤ n) (h4 : n ≤ 4) : (idxs n).length ≤ 24 ∧ ∀ o ∈ idxs n, o.length = n ∧ ∀ i ∈ o, 0 ≤ i ∧ i < (n : Int) := by
  have h : n = 1 ∨ n = 2 ∨ n = 3 ∨ n = 4 := by omega
  rcases h with rfl | rfl | rfl | rfl <;> decide +kernel
end Go.Proofs.Ytllnieknogficaa.K
