/-
Part 1 of the proof of the law FnExactTurnPlan: what the Go functions that it reaches come to, each proved of the given program; no condition beside those that each theorem names.
-/
import Derived.Test.YtllnieknogficaaProg
import Derived.Below
import Derived.Deep.Draws
import Derived.Deep.AppendLies
import Derived.Maps.AppendAt
import Derived.OwnWalk
import Derived.Laws.BytesArg
import Derived.Laws.MakeOwn
import Derived.Laws.OwnMore
import Derived.Deep.OwnRows
import Derived.Tactics
import Derived.Lib.ConvBytes
import Derived.Laws.Slices
import Derived.WalkKit
import Derived.KernelRfl
import Derived.RowKit3
import Derived.Deep.LoopGhost
import Derived.Deep.QuietTactic
import Derived.BigQuiet
import Derived.WideLaws
import Derived.Deep.DeepCutAuto
import Derived.Deep.CutBlock
import Derived.Deep.RegionHeld3
import Derived.Laws.Rows
import Derived.Lib.AppendStr
import Derived.ArgAppend
import Derived.Laws.IdiomCopy
import Derived.OrdersHeld
import Derived.Laws.BitsLemmas
import Derived.RowKit
import Derived.Shelf.Abstract
import Derived.Test.YtllnieknogficaaWWords
import Derived.Test.YtllnieknogficaaWLast
import Derived.Test.YtllnieknogficaaWTab
import Derived.Test.YtllnieknogficaaWFour
import Derived.Test.YtllnieknogficaaWQPut
import Derived.Test.YtllnieknogficaaWApart
import Derived.Test.YtllnieknogficaaWArr
import Derived.Test.YtllnieknogficaaWZeros
import Derived.Test.YtllnieknogficaaWFoot
import Derived.Test.YtllnieknogficaaWKept
import Derived.Test.YtllnieknogficaaWShare
import Derived.Test.YtllnieknogficaaWN
import Derived.Test.YtllnieknogficaaWFootNe
import Derived.Test.YtllnieknogficaaWAt
import Derived.Test.YtllnieknogficaaWEqStruct
import Derived.Test.YtllnieknogficaaWRepsOne
import Derived.Test.YtllnieknogficaaWInv
import Derived.Test.YtllnieknogficaaWInvWords
import Derived.Test.YtllnieknogficaaWGuard
import Derived.Test.YtllnieknogficaaWNEv
import Derived.Test.YtllnieknogficaaWMore
import Derived.Deep.Matrix
import Derived.ProofKit
import Derived.Lib.SmallJoins
namespace Go.Proofs.Ytllnieknogficaa.K
open Go.RowKit Go.Proofs.YtllnieknogficaaW.PrintWords Go.Proofs.YtllnieknogficaaW.PrintLast Go.Proofs.YtllnieknogficaaW.PrintMore
attribute [local go_sem] max2_int min2_int max_two min_two max_three min_three max_four min_four   -- for this text's walks alone
set_option linter.unusedVariables false
set_option linter.unusedSimpArgs false



def errW : Option Int → Value
  | none => .nilIface
  | some c => .iface 0 (.int .i64 c)
theorem errW_none : errW none = .nilIface := rfl
theorem errW_some (c : Int) : errW (some c) = .iface 0 (.int .i64 c) := rfl

theorem info3 : (Try.prog.info? 3).map (fun i => (i.zero, i.size, i.bytes)) = some (some (.int .i64 0), 1, 8) := by kernel_rfl
theorem info24 : (Try.prog.info? 24).map (fun i => (i.zero, i.size, i.bytes)) = some (some (.slice none 0 0), 1, 24) := by kernel_rfl
theorem info70 : (Try.prog.info? 70).map (fun i => (i.zero, i.size, i.bytes)) = some (some (.agg #[(.int .i64 0), (.int .i64 0)]), 2, 16) := by kernel_rfl
-- the values' own types
def rd_L2 (xs : List (List Int)) (i : Int) : (List Int) := xs.getD i.toNat ([] : List Int)
theorem at_L2 {w : World} {A : Option Addr} {n : Nat} {xs : List (List Int)} (h : Kd.C (Kd.slice 3 (Kd.int .i64)) w A n xs) (i : Int) (h0 : 0 ≤ i) (h1 : i < n) : ∃ ad A0 c0, A = some ad ∧ w.cell? (ad.add i.toNat) = some (.slice A0 (rd_L2 xs i).length c0) ∧ (rd_L2 xs i).length ≤ c0 ∧ (Kd.int .i64).C w A0 (rd_L2 xs i).length (rd_L2 xs i) := by
  obtain ⟨ad, c, e, _, hK, hc0⟩ := Kd.C_get h ([] : List Int) i h0 h1
  have hc : ∀ j u, c[j]? = some u → w.cell? (ad.add (i.toNat * 1 + j)) = some u := hc0
  obtain ⟨A0, c0, rfl, l0, g0⟩ := hK
  exact ⟨ad, A0, c0, e, by have hq := hc 0 _ rfl; rwa [Nat.mul_one, Nat.add_zero] at hq, l0, g0⟩

def rd_L3 (xs : List (List (List Int))) (i : Int) : (List (List Int)) := xs.getD i.toNat ([] : List (List Int))
theorem at_L3 {w : World} {A : Option Addr} {n : Nat} {xs : List (List (List Int))} (h : Kd.C (Kd.slice 24 (Kd.slice 3 (Kd.int .i64))) w A n xs) (i : Int) (h0 : 0 ≤ i) (h1 : i < n) : ∃ ad A0 c0, A = some ad ∧ w.cell? (ad.add i.toNat) = some (.slice A0 (rd_L3 xs i).length c0) ∧ (rd_L3 xs i).length ≤ c0 ∧ (Kd.slice 3 (Kd.int .i64)).C w A0 (rd_L3 xs i).length (rd_L3 xs i) := by
  obtain ⟨ad, c, e, _, hK, hc0⟩ := Kd.C_get h ([] : List (List Int)) i h0 h1
  have hc : ∀ j u, c[j]? = some u → w.cell? (ad.add (i.toNat * 1 + j)) = some u := hc0
  obtain ⟨A0, c0, rfl, l0, g0⟩ := hK
  exact ⟨ad, A0, c0, e, by have hq := hc 0 _ rfl; rwa [Nat.mul_one, Nat.add_zero] at hq, l0, g0⟩

/-! #### struct type 70 -/
structure S70 where
  f0 : Int
  f1 : Int
def z70 : S70 := ⟨(0 : Int), (0 : Int)⟩
def k70 : Kd S70 := Kd.iso (Kd.pair (Kd.int .i64) (Kd.int .i64)) (fun x : S70 => (x.f0, x.f1))
theorem k70_open {w : World} {x : S70} {cs : List Value} (h : k70.K w x cs) : cs = [.int .i64 x.f0, .int .i64 x.f1] := by
  obtain ⟨_, _, rfl, rfl, rfl⟩ := h
  exact rfl
theorem k70_openM {w : World} {base : Nat} {ok : Nat → Prop} {x : S70} {cs : List Value} (h : k70.M w base ok x cs) : cs = [.int .i64 x.f0, .int .i64 x.f1] := by
  obtain ⟨_, _, rfl, rfl, rfl⟩ := h
  exact rfl
theorem k70_mk (w : World) (x : S70)  : k70.K w x [.int .i64 x.f0, .int .i64 x.f1] := ⟨[.int .i64 x.f0], [.int .i64 x.f1], rfl, rfl, rfl⟩
theorem k70_mkM (w : World) (base : Nat) (ok : Nat → Prop) (x : S70)  : k70.M w base ok x [.int .i64 x.f0, .int .i64 x.f1] := ⟨[.int .i64 x.f0], [.int .i64 x.f1], rfl, rfl, rfl⟩
theorem k70_mkF (W : World) (ok : Nat → Prop) (x : S70) : Kd.FK k70 W ok x [.int .i64 x.f0, .int .i64 x.f1] := fun W2 _ => k70_mk W2 x
def rd_T70 (xs : List S70) (i : Int) : S70 := xs.getD i.toNat z70
theorem at_T70 {w : World} {A : Option Addr} {n : Nat} {xs : List S70} (h : Kd.C k70 w A n xs) (i : Int) (h0 : 0 ≤ i) (h1 : i < n) : ∃ ad , A = some ad ∧ w.cell? (ad.add (i.toNat * 2)) = some (.int .i64 (rd_T70 xs i).f0) ∧ w.cell? ⟨(ad.add (i.toNat * 2)).block, (ad.add (i.toNat * 2)).off + 1, none⟩ = some (.int .i64 (rd_T70 xs i).f1) := by
  obtain ⟨ad, c, e, _, hK, hc0⟩ := Kd.C_get h z70 i h0 h1
  have hc : ∀ j u, c[j]? = some u → w.cell? (ad.add (i.toNat * 2 + j)) = some u := hc0
  obtain rfl := k70_open hK
  exact ⟨ad, e, hc 0 _ rfl, by rw [← add_field _ _ 1 (by omega)]; exact hc 1 _ rfl⟩

end Go.Proofs.Ytllnieknogficaa.K
namespace Go.Proofs.Ytllnieknogficaa.K
open Go.RowKit Go.Proofs.YtllnieknogficaaW.PrintWords Go.Proofs.YtllnieknogficaaW.PrintLast Go.Proofs.YtllnieknogficaaW.PrintMore
attribute [local go_sem] max2_int min2_int max_two min_two max_three min_three max_four min_four   -- for this text's walks alone
set_option linter.unusedVariables false
set_option linter.unusedSimpArgs false
theorem ev_succ {α : Type} {g : Nat → Option α} {r : α} (h : Ev (fun k => g (k + 1)) r) : Ev g r := Ev.step (fun _ => rfl) h
theorem ev_some {α : Type} (g : Option α) {r : α} (h : g = some r) : Ev (fun _ => g) r := ⟨0, fun _ _ => h⟩
theorem ev_now {α : Type} (r r' : α) (h : r = r') : Ev (fun _ => some r) r' := ⟨0, fun _ _ => by rw [h]⟩
theorem wrap64_id {x : Int} (h0 : -9223372036854775808 ≤ x) (h1 : x ≤ 9223372036854775807) : wrap64 x = x := by unfold wrap64; omega
theorem wrap64_nat_succ {i : Nat} (h : i < 9223372036854775807) : wrap64 ((i : Int) + 1) = ((i + 1 : Nat) : Int) := by unfold wrap64; omega
theorem rd_nat (l : List Int) (i : Nat) (h : i < l.length) : rd l (i : Int) = l[i] := by unfold rd; simp [h]
theorem rdL_nat (l : List (List Int)) (i : Nat) (h : i < l.length) : rd_L2 l (i : Int) = l[i] := by unfold rd_L2; simp [h]
theorem rd_nat_getD (l : List Int) (i : Nat) : rd l (i : Int) = l.getD i 0 := by unfold rd; simp
theorem rdL_nat_getD (l : List (List Int)) (i : Nat) : rd_L2 l (i : Int) = l.getD i [] := by unfold rd_L2; simp
end Go.Proofs.Ytllnieknogficaa.K
namespace Go.Proofs.Ytllnieknogficaa.K
open Go.RowKit Go.Proofs.YtllnieknogficaaW.PrintWords Go.Proofs.YtllnieknogficaaW.PrintLast Go.Proofs.YtllnieknogficaaW.PrintMore
attribute [local go_sem] max2_int min2_int max_two min_two max_three min_three max_four min_four   -- for this text's walks alone
set_option linter.unusedVariables false
set_option linter.unusedSimpArgs false

/-! ### laws_toIntS: function 42 -/
def laws_toIntS.l0 : Nat → List Int → List Int → Int → Option (List Int)
  | 0, _, _, _ => none
  | k + 1, x0, x3, x4 => if x4 < (x0.length : Int) then (if 0 ≤ x4 then (if x4 < (x3.length : Int) then (laws_toIntS.l0 k x0 (x3.set (x4 : Int).toNat (rd x0 x4)) (wrap64 (x4 + 1))) else (none)) else (none)) else (some x3)
def laws_toIntS.f (k : Nat) (l0 : List Int) : Option (List Int) := if 0 ≤ (l0.length : Int) then (if ((l0.length : Int) : Int).toNat ≤ 35184372088832 then (laws_toIntS.l0 k l0 (List.replicate ((l0.length : Int) : Int).toNat 0) 0) else (none)) else (none)
theorem laws_toIntS.mono_l : ∀ k, (∀ y0 y1 y2, LeO (laws_toIntS.l0 k y0 y1 y2) (laws_toIntS.l0 (k + 1) y0 y1 y2))
  | 0 => fun _ _ _ r h => by simp [laws_toIntS.l0] at h
  | k + 1 => by
    have ih0 := laws_toIntS.mono_l k
    · intro y0 y1 y2
      unfold laws_toIntS.l0
      repeat' first
      | (with_reducible exact ih0 _ _ _)
      | (with_reducible exact LeO.refl _)
      | (with_reducible exact LeO.none _)
      | (with_reducible refine LeO.ite ?_ ?_)
      | (with_reducible refine LeO.bind ?_ (fun _ => ?_))
      | exact ih0 _ _ _
      | exact LeO.none _
      | refine LeO.ite ?_ ?_
      | refine LeO.bind ?_ (fun _ => ?_)
theorem laws_toIntS.mono : ∀ a0 k, LeO (laws_toIntS.f k a0) (laws_toIntS.f (k + 1) a0) := by
  intro a0 k
  have ih0 := laws_toIntS.mono_l k
  unfold laws_toIntS.f
  repeat' first
      | (with_reducible exact ih0 _ _ _)
      | (with_reducible exact LeO.refl _)
      | (with_reducible exact LeO.none _)
      | (with_reducible refine LeO.ite ?_ ?_)
      | (with_reducible refine LeO.bind ?_ (fun _ => ?_))
      | exact ih0 _ _ _
      | exact LeO.none _
      | refine LeO.ite ?_ ?_
      | refine LeO.bind ?_ (fun _ => ?_)
set_option maxHeartbeats 8000000 in
set_option maxRecDepth 100000 in
theorem laws_toIntS.calls (k : Nat) (A0 : Option Addr) (c0 : Nat) (l0 : List Int) (r : List Int) (w : World) (hr0 : Kd.C (Kd.int .i64) w A0 l0.length l0) (hc0 : l0.length ≤ c0) (h : laws_toIntS.f k l0 = some r) :
    Calls Try.prog 42 #[.slice A0 l0.length c0] w fun e w' => ∃ v0_ : Value, e = .returned (v0_) ∧ Kd.R (Kd.int .i64) 3 w' w.heap.size (fun _ => True) v0_ r ∧ Below w.heap.size w w' := by
  have HR0 := Aside0.mk hr0
  have HC0 := Aside0.mk hc0
  clear hr0 hc0
  have HB := Aside0.mk (Below.refl w.heap.size w)
  have H : (if 0 ≤ (l0.length : Int) then (if ((l0.length : Int) : Int).toNat ≤ 35184372088832 then (laws_toIntS.l0 k l0 (List.replicate ((l0.length : Int) : Int).toNat 0) 0) else (none)) else (none)) = some r := h
  clear h
  by_cases c2 : 0 ≤ (l0.length : Int)
  · rw [if_pos c2] at H
    have c2b0 := eq_true c2
    have c2b1 : decide (0 ≤ (l0.length : Int)) = true := decide_eq_true c2
    clear c2
    by_cases c3 : ((l0.length : Int) : Int).toNat ≤ 35184372088832
    · rw [if_pos c3] at H
      have c3b0 := eq_true c3
      have c3b1 : decide (((l0.length : Int) : Int).toNat ≤ 35184372088832) = true := decide_eq_true c3
      clear c3
      obtain ⟨y393, hy393⟩ : ∃ y_ : List Int, y_ = (List.replicate ((l0.length : Int) : Int).toNat 0) := ⟨_, rfl⟩
      replace H : (laws_toIntS.l0 k l0 y393 0) = some r := by first | (rw [hy393]; with_reducible exact H) | (have H2_ := (Option.bind_some _ _).symm.trans H; rw [hy393]; with_reducible exact H2_) | (have H2_ := (Option.bind_some _ _).symm.trans H; with_reducible exact H2_) | with_reducible exact H | (rw [hy393]; exact H) | exact H
      have Ny393 := Aside0.mk hy393
      clear hy393
      have H' := Aside0.mk H
      clear H
      go_enter Try.func42, Try.ntmps42
      go_wp2_with (first | ((with_reducible refine gate_dst (N := 7) rfl ?_); refine Kd.R_make (Kd.int .i64) _ 3 rfl (N := 7) rfl 24 _ _ rfl (l0.length : Int) rfl rfl Try.underlying24 (.int .i64 0) 8 info3 rfl (by decide) (by omega) 0 (ok := fun _ => True) (okp := fun _ => True) rfl (fun _ hk => hk) trivial (of_decide_eq_true (by first | (with_reducible assumption) | assumption)) (Nat.le_trans (Nat.mul_le_mul_right _ (of_decide_eq_true (by first | (with_reducible assumption) | assumption) : (l0.length : Int).toNat ≤ 35184372088832)) (by omega)) (Below.refl _ _) (Nat.le_refl _) ?_; intro v394 w4 ho5 hb hg_ hnew_; clear hg_ hnew_; (first | rw [← Ny393.out] at ho5 | (simp only [Int.reduceToNat] at ho5; rw [← Ny393.out] at ho5)); have n0_ := Aside0.mk (Kd.R_lower ho5 (below_size (by repeat (first | (with_reducible first | exact HB.out | apply below_alloc | apply pw_below_drewN | apply below_drew1) | exact HB.out)))); have n1_ := Aside0.mk (below_step (by repeat (first | (with_reducible first | exact HB.out | apply below_alloc | apply pw_below_drewN | apply below_drew1) | exact HB.out)) hb); clear HB; have HO395 := n0_; have HB := n1_; clear n0_ n1_; clear hb ho5))
      go_loopg [4] k (fun kq v4 w' => ∃ (x3_1 : List Int) (x4_1 : Int), v4 = .int .i64 x4_1 ∧ Aside0 (laws_toIntS.l0 kq l0 x3_1 x4_1 = some r) ∧ Aside0 (kq ≤ k) ∧ Aside0 (Kd.R (Kd.int .i64) 3 w' w.heap.size (fun _ => True) v394 x3_1) ∧ Aside0 (Below w.heap.size w w'))
      case atStart => exact ⟨(y393), (0), (by first | rfl | (simp; done) | (simp [*]; done)), H', ⟨Nat.le_refl _⟩, ⟨by (with_reducible repeat (first | apply Kd.R_alloc | apply Kd.R_drewN | apply Kd.R_drew)); exact HO395.out⟩, ⟨by repeat (first | (with_reducible first | exact HB.out | apply below_alloc | apply pw_below_drewN | apply below_drew1) | exact HB.out)⟩⟩
      case round =>
        clear H'
        try clear c2
        try clear c2b0
        try clear c2b1
        try clear p2
        try clear c3
        try clear c3b0
        try clear c3b1
        try clear c4
        obtain ⟨x3_1, x4_1, rfl, HA, HK1, HO_3, HB⟩ := hrel
        cases gk with
        | zero => exact absurd HA.out (by simp [laws_toIntS.l0])
        | succ k1 =>
          have H := HA.out
          clear HA
          simp only [laws_toIntS.l0] at H
          by_cases c6 : x4_1 < (l0.length : Int)
          · rw [if_pos c6] at H
            have c6b0 : decide (x4_1 < (l0.length : Int)) = true := decide_eq_true c6
            clear c6
            by_cases c7 : 0 ≤ x4_1
            · rw [if_pos c7] at H
              have c7b0 : decide (0 ≤ x4_1) = true := decide_eq_true c7
              clear c7
              by_cases c8 : x4_1 < (x3_1.length : Int)
              · rw [if_pos c8] at H
                have c8b0 : decide (x4_1 < (x3_1.length : Int)) = true := decide_eq_true c8
                clear c8
                obtain ⟨y397, hy397⟩ : ∃ y_ : List Int, y_ = (x3_1.set (x4_1 : Int).toNat (rd l0 x4_1)) := ⟨_, rfl⟩
                replace H : (laws_toIntS.l0 k1 l0 y397 (wrap64 (x4_1 + 1))) = some r := by first | (rw [hy397]; with_reducible exact H) | (have H2_ := (Option.bind_some _ _).symm.trans H; rw [hy397]; with_reducible exact H2_) | (have H2_ := (Option.bind_some _ _).symm.trans H; with_reducible exact H2_) | with_reducible exact H | (rw [hy397]; exact H) | exact H
                have Ny397 := Aside0.mk hy397
                clear hy397
                have H' := Aside0.mk H
                clear H
                have p396 : 0 ≤ (x4_1 : Int) := of_decide_eq_true (by first | (with_reducible assumption) | assumption)
                have q396 : x4_1 < (l0.length : Int) := of_decide_eq_true (by first | (with_reducible assumption) | assumption)
                obtain ⟨ad396, e396, hx396_0⟩ := Kd.at_int HR0.out x4_1 p396 q396
                cases e396
                replace hx396_0 := (HB.out.cell (World.block_lt_of_cell? w _ hx396_0)).trans hx396_0
                replace p396 := eq_true p396
                replace q396 := eq_true q396
                have p9 : 0 ≤ (x4_1 : Int) := of_decide_eq_true (by first | (with_reducible assumption) | assumption)
                have q9 : (x4_1 : Int) < ((x3_1.length : Int) : Int) := of_decide_eq_true (by first | (with_reducible assumption) | assumption)
                obtain ⟨go9, co9, eo9, gb9, gl9, cl9, HG9⟩ := Kd.R_form HO_3.out (by omega)
                (first | cases eo9 | (injection eo9 with ea_ en_ ec_; (first | subst ea_ | (injection ea_ with ea_; subst ea_)); subst ec_; clear en_))
                have GB9 := Aside0.mk gb9
                have GG9 := Aside0.mk HG9
                clear gb9 gl9 HG9
                obtain ⟨hx9_0, hf9_0⟩ := Kd.R_celln 0 HO_3.out (x4_1 : Int) p9 q9
                replace p9 := eq_true p9
                replace q9 := eq_true q9
                have HP10 := Kd.R_putg HO_3.out (x4_1 : Int) (rd l0 x4_1)
                go_wp2_with (first | ((with_reducible refine gate_store (t := 3) (p := 20) rfl ?_); refine store_event (t := 3) (p := 20) (v := ?vo_w11) (w1 := (wr.setCell ⟨go9, (x4_1 : Int).toNat, none⟩ (.int .i64 (rd l0 x4_1)))) ?hg ?ho ?hn ?hr ?_; (case ho => rfl); (case hg => rfl); (case hn => rfl); (case hr => first | (go_simp; done) | (go_simp; rfl)); intro w11 hw; have hg : wr.grownBy w11 (some go9) := (by rw [hw]; exact HP10.2); have hp_ : Kd.R (Kd.int .i64) 3 w11 w.heap.size (fun _ => True) (.slice (some ⟨go9, 0, none⟩) x3_1.length co9) y397 := (by rw [hw, Ny397.out]; exact HP10.1); clear HP10; have n0_ := Aside0.mk (hp_); have n1_ := Aside0.mk ((by rw [hw]; exact below_set (HB.out) GB9.out : Below w.heap.size w w11)); clear HO_3; clear HB; have HO_3 := n0_; have HB := n1_; clear n0_ n1_; clear hg hw hp_))
                go_roundg k1
                case measure => have := HK1.out; omega
                case rel => exact ⟨(y397), (wrap64 (x4_1 + 1)), (by first | rfl | (simp; done) | (simp [*]; done)), H', ⟨by have := HK1.out; omega⟩, ⟨by (with_reducible repeat (first | apply Kd.R_alloc | apply Kd.R_drewN | apply Kd.R_drew)); exact HO_3.out⟩, ⟨by repeat (first | (with_reducible first | exact HB.out | apply below_alloc | apply pw_below_drewN | apply below_drew1) | exact HB.out)⟩⟩
              · rw [if_neg c8] at H
                exact absurd H (by simp)
            · rw [if_neg c7] at H
              exact absurd H (by simp)
          · rw [if_neg c6] at H
            have c6b0 : decide (x4_1 < (l0.length : Int)) = false := decide_eq_false c6
            clear c6
            obtain rfl := Option.some.inj H
            go_wp2
            go_ret
            exact ⟨_, by first | rfl | (simp [errW_none, errW_some] <;> rfl) | (simp [*, errW_none, errW_some] <;> rfl), by (with_reducible repeat (first | apply Kd.R_alloc | apply Kd.R_drewN | apply Kd.R_drew)); exact HO_3.out, by repeat (first | (with_reducible first | exact HB.out | apply below_alloc | apply pw_below_drewN | apply below_drew1) | exact HB.out)⟩
    · rw [if_neg c3] at H
      exact absurd H (by simp)
  · rw [if_neg c2] at H
    exact absurd H (by simp)

end Go.Proofs.Ytllnieknogficaa.K
namespace Go.Proofs.Ytllnieknogficaa.K
open Go.RowKit Go.Proofs.YtllnieknogficaaW.PrintWords Go.Proofs.YtllnieknogficaaW.PrintLast Go.Proofs.YtllnieknogficaaW.PrintMore
attribute [local go_sem] max2_int min2_int max_two min_two max_three min_three max_four min_four   -- for this text's walks alone
set_option linter.unusedVariables false
set_option linter.unusedSimpArgs false

/-! ### laws_toIntSS: function 36 -/
def laws_toIntSS.l0 : Nat → List (List Int) → List (List Int) → Int → Option ((List (List Int)))
  | 0, _, _, _ => none
  | k + 1, x0, x3, x4 => if x4 < (x0.length : Int) then (if 0 ≤ x4 then ((laws_toIntS.f k (rd_L2 x0 x4)).bind fun t402 => (if x4 < (x3.length : Int) then (laws_toIntSS.l0 k x0 (x3.set (x4 : Int).toNat t402) (wrap64 (x4 + 1))) else (none))) else (none)) else (some x3)
def laws_toIntSS.f (k : Nat) (l0 : List (List Int)) : Option ((List (List Int))) := if 0 ≤ (l0.length : Int) then (if ((l0.length : Int) : Int).toNat ≤ 11728124029610 then (laws_toIntSS.l0 k l0 (List.replicate ((l0.length : Int) : Int).toNat []) 0) else (none)) else (none)
theorem laws_toIntSS.mono_l : ∀ k, (∀ y0 y1 y2, LeO (laws_toIntSS.l0 k y0 y1 y2) (laws_toIntSS.l0 (k + 1) y0 y1 y2))
  | 0 => fun _ _ _ r h => by simp [laws_toIntSS.l0] at h
  | k + 1 => by
    have ih0 := laws_toIntSS.mono_l k
    · intro y0 y1 y2
      unfold laws_toIntSS.l0
      repeat' first
      | (with_reducible exact ih0 _ _ _)
      | (with_reducible exact laws_toIntS.mono _ _)
      | (with_reducible exact LeO.refl _)
      | (with_reducible exact LeO.none _)
      | (with_reducible refine LeO.ite ?_ ?_)
      | (with_reducible refine LeO.bind ?_ (fun _ => ?_))
      | exact ih0 _ _ _
      | exact laws_toIntS.mono _ _
      | exact LeO.none _
      | refine LeO.ite ?_ ?_
      | refine LeO.bind ?_ (fun _ => ?_)
theorem laws_toIntSS.mono : ∀ a0 k, LeO (laws_toIntSS.f k a0) (laws_toIntSS.f (k + 1) a0) := by
  intro a0 k
  have ih0 := laws_toIntSS.mono_l k
  unfold laws_toIntSS.f
  repeat' first
      | (with_reducible exact ih0 _ _ _)
      | (with_reducible exact laws_toIntS.mono _ _)
      | (with_reducible exact LeO.refl _)
      | (with_reducible exact LeO.none _)
      | (with_reducible refine LeO.ite ?_ ?_)
      | (with_reducible refine LeO.bind ?_ (fun _ => ?_))
      | exact ih0 _ _ _
      | exact laws_toIntS.mono _ _
      | exact LeO.none _
      | refine LeO.ite ?_ ?_
      | refine LeO.bind ?_ (fun _ => ?_)
set_option maxHeartbeats 8000000 in
set_option maxRecDepth 100000 in
theorem laws_toIntSS.calls (k : Nat) (A0 : Option Addr) (c0 : Nat) (l0 : List (List Int)) (r : List (List Int)) (w : World) (hr0 : Kd.C (Kd.slice 3 (Kd.int .i64)) w A0 l0.length l0) (hc0 : l0.length ≤ c0) (h : laws_toIntSS.f k l0 = some r) :
    Calls Try.prog 36 #[.slice A0 l0.length c0] w fun e w' => ∃ v0_ : Value, e = .returned (v0_) ∧ Kd.S (Kd.slice 3 (Kd.int .i64)) 24 w' w.heap.size (fun _ => True) v0_ r ∧ Below w.heap.size w w' := by
  have HR0 := Aside0.mk hr0
  have HC0 := Aside0.mk hc0
  clear hr0 hc0
  have HB := Aside0.mk (Below.refl w.heap.size w)
  have H : (if 0 ≤ (l0.length : Int) then (if ((l0.length : Int) : Int).toNat ≤ 11728124029610 then (laws_toIntSS.l0 k l0 (List.replicate ((l0.length : Int) : Int).toNat []) 0) else (none)) else (none)) = some r := h
  clear h
  by_cases c2 : 0 ≤ (l0.length : Int)
  · rw [if_pos c2] at H
    have c2b0 := eq_true c2
    have c2b1 : decide (0 ≤ (l0.length : Int)) = true := decide_eq_true c2
    clear c2
    by_cases c3 : ((l0.length : Int) : Int).toNat ≤ 11728124029610
    · rw [if_pos c3] at H
      have c3b0 := eq_true c3
      have c3b1 : decide (((l0.length : Int) : Int).toNat ≤ 11728124029610) = true := decide_eq_true c3
      clear c3
      obtain ⟨y398, hy398⟩ : ∃ y_ : List (List Int), y_ = (List.replicate ((l0.length : Int) : Int).toNat []) := ⟨_, rfl⟩
      replace H : (laws_toIntSS.l0 k l0 y398 0) = some r := by first | (rw [hy398]; with_reducible exact H) | (have H2_ := (Option.bind_some _ _).symm.trans H; rw [hy398]; with_reducible exact H2_) | (have H2_ := (Option.bind_some _ _).symm.trans H; with_reducible exact H2_) | with_reducible exact H | (rw [hy398]; exact H) | exact H
      have Ny398 := Aside0.mk hy398
      clear hy398
      have H' := Aside0.mk H
      clear H
      go_enter Try.func36, Try.ntmps36
      go_wp2_with (first | ((with_reducible refine gate_dst (N := 7) rfl ?_); refine Kd.S_make (Kd.slice 3 (Kd.int .i64)) _ 24 rfl (N := 7) rfl 37 _ _ rfl (l0.length : Int) rfl rfl Try.underlying37 (.slice none 0 0) 24 info24 rfl (by decide) (by omega) [] (ok := fun _ => True) (okp := fun _ => True) ⟨_, rfl, Kd.R_nil _ _ _ _ _⟩ (fun _ hk => hk) trivial (of_decide_eq_true (by first | (with_reducible assumption) | assumption)) (Nat.le_trans (Nat.mul_le_mul_right _ (of_decide_eq_true (by first | (with_reducible assumption) | assumption) : (l0.length : Int).toNat ≤ 11728124029610)) (by omega)) (Below.refl _ _) (Nat.le_refl _) ?_; intro v399 w4 ho5 hb hg_ hnew_; clear hg_ hnew_; (first | rw [← Ny398.out] at ho5 | (simp only [Int.reduceToNat] at ho5; rw [← Ny398.out] at ho5)); have n0_ := Aside0.mk (Kd.S_lower ho5 (below_size (by repeat (first | (with_reducible first | exact HB.out | apply below_alloc | apply pw_below_drewN | apply below_drew1) | exact HB.out)))); have n1_ := Aside0.mk (below_step (by repeat (first | (with_reducible first | exact HB.out | apply below_alloc | apply pw_below_drewN | apply below_drew1) | exact HB.out)) hb); clear HB; have HO400 := n0_; have HB := n1_; clear n0_ n1_; clear hb ho5))
      go_loopg [4] k (fun kq v4 w' => ∃ (x3_1 : List (List Int)) (x4_1 : Int), v4 = .int .i64 x4_1 ∧ Aside0 (laws_toIntSS.l0 kq l0 x3_1 x4_1 = some r) ∧ Aside0 (kq ≤ k) ∧ Aside0 (Kd.S (Kd.slice 3 (Kd.int .i64)) 24 w' w.heap.size (fun _ => True) v399 x3_1) ∧ Aside0 (Below w.heap.size w w'))
      case atStart => exact ⟨(y398), (0), (by first | rfl | (simp; done) | (simp [*]; done)), H', ⟨Nat.le_refl _⟩, ⟨by (with_reducible repeat (first | apply Kd.S_alloc | apply Kd.S_drewN | apply Kd.S_drew)); exact HO400.out⟩, ⟨by repeat (first | (with_reducible first | exact HB.out | apply below_alloc | apply pw_below_drewN | apply below_drew1) | exact HB.out)⟩⟩
      case round =>
        clear H'
        try clear c2
        try clear c2b0
        try clear c2b1
        try clear p2
        try clear c3
        try clear c3b0
        try clear c3b1
        obtain ⟨x3_1, x4_1, rfl, HA, HK1, HO_3, HB⟩ := hrel
        cases gk with
        | zero => exact absurd HA.out (by simp [laws_toIntSS.l0])
        | succ k1 =>
          have H := HA.out
          clear HA
          simp only [laws_toIntSS.l0] at H
          by_cases c6 : x4_1 < (l0.length : Int)
          · rw [if_pos c6] at H
            have c6b0 : decide (x4_1 < (l0.length : Int)) = true := decide_eq_true c6
            clear c6
            by_cases c7 : 0 ≤ x4_1
            · rw [if_pos c7] at H
              have c7b0 : decide (0 ≤ x4_1) = true := decide_eq_true c7
              clear c7
              replace H := Option.bind_eq_some_iff.mp H
              obtain ⟨t402, A80, H⟩ := H
              replace H : (if x4_1 < (x3_1.length : Int) then (laws_toIntSS.l0 k1 l0 (x3_1.set (x4_1 : Int).toNat t402) (wrap64 (x4_1 + 1))) else (none)) = some r := H
              have A8 := Aside0.mk A80
              clear A80
              by_cases c9 : x4_1 < (x3_1.length : Int)
              · rw [if_pos c9] at H
                have c9b0 : decide (x4_1 < (x3_1.length : Int)) = true := decide_eq_true c9
                clear c9
                obtain ⟨y405, hy405⟩ : ∃ y_ : List (List Int), y_ = (x3_1.set (x4_1 : Int).toNat t402) := ⟨_, rfl⟩
                replace H : (laws_toIntSS.l0 k1 l0 y405 (wrap64 (x4_1 + 1))) = some r := by first | (rw [hy405]; with_reducible exact H) | (have H2_ := (Option.bind_some _ _).symm.trans H; rw [hy405]; with_reducible exact H2_) | (have H2_ := (Option.bind_some _ _).symm.trans H; with_reducible exact H2_) | with_reducible exact H | (rw [hy405]; exact H) | exact H
                have Ny405 := Aside0.mk hy405
                clear hy405
                have H' := Aside0.mk H
                clear H
                have p401 : 0 ≤ (x4_1 : Int) := of_decide_eq_true (by first | (with_reducible assumption) | assumption)
                have q401 : x4_1 < (l0.length : Int) := of_decide_eq_true (by first | (with_reducible assumption) | assumption)
                obtain ⟨ad401, A401_0, c401_0, e401, hx401_0, hl401_0, hi401_0⟩ := at_L2 HR0.out x4_1 p401 q401
                cases e401
                replace hx401_0 := (HB.out.cell (World.block_lt_of_cell? w _ hx401_0)).trans hx401_0
                have HR401_0 := Aside0.mk hi401_0
                have HC401_0 := Aside0.mk hl401_0
                clear hi401_0 hl401_0
                replace p401 := eq_true p401
                replace q401 := eq_true q401
                go_wp2_with (first | ((with_reducible refine gate_callee (f := 42) rfl ?_); refine goesL_ (some 20) rfl rfl Try.func42 (by kernel_rfl) rfl #[.slice A401_0 (rd_L2 l0 x4_1).length c401_0] rfl (by (try simp only [List.map_toArray, List.map_cons, List.map_nil]); first | done | rfl | (simp only [List.length_drop, List.length_take]; rfl)) ?_; (with_reducible refine (laws_toIntS.calls k1 _ _ (rd_L2 l0 x4_1) t402 _ ?side1 ?side2 A8.out).mono ?_); (case side1 => repeat (first | exact (Kd.C_below HR401_0.out HB.out) | (with_reducible refine Kd.C_alloc ?_ _) | (with_reducible refine Kd.C_drewN ?_ _) | (with_reducible refine Kd.C_drew ?_))); (case side2 => exact HC401_0.out); rintro e w11 ⟨v403, rfl, ho0, hb⟩; refine ⟨_, rfl, ?_⟩; have n0_ := Aside0.mk (Kd.S_elder' (by (with_reducible repeat (first | apply Kd.S_alloc | apply Kd.S_drewN | apply Kd.S_drew)); exact HO_3.out) (Kd.R_base ho0) hb); have n1_ := Aside0.mk (Kd.R_lower ho0 (below_size (by repeat (first | (with_reducible first | exact HB.out | apply below_alloc | apply pw_below_drewN | apply below_drew1) | exact HB.out)))); have n2_ := Aside0.mk (below_step (by repeat (first | (with_reducible first | exact HB.out | apply below_alloc | apply pw_below_drewN | apply below_drew1) | exact HB.out)) hb); clear HO_3; clear HB; have HO_3 := n0_; have HO404 := n1_; have HB := n2_; clear n0_ n1_ n2_; (try clear hb); (try clear hb2); (try clear hk); (try clear hi); (try clear ho0); have p10 : 0 ≤ (x4_1 : Int) := of_decide_eq_true (by first | (with_reducible assumption) | assumption); have q10 : (x4_1 : Int) < ((x3_1.length : Int) : Int) := of_decide_eq_true (by first | (with_reducible assumption) | assumption); obtain ⟨go10, co10, eo10, gb10, gl10, cl10, HG10⟩ := Kd.S_form HO_3.out (by omega); (first | cases eo10 | (injection eo10 with ea_ en_ ec_; (first | subst ea_ | (injection ea_ with ea_; subst ea_)); subst ec_; clear en_)); have GB10 := Aside0.mk gb10; have GG10 := Aside0.mk HG10; clear gb10 gl10 HG10; obtain ⟨_, ce10, hcl10, hM10, hcc10, hfr10, _, _⟩ := Kd.S_elem HO_3.out [] (x4_1 : Int) p10 q10; obtain ⟨ve10_0, rfl, ge10_0⟩ := hM10; have hx10_0 := hcc10 0 _ rfl; have hf10_0 := hfr10 0; (try simp only [show ((Kd.slice 3 (Kd.int .i64))).sz = 1 from rfl, Nat.mul_one, Nat.add_zero] at hx10_0); (try simp only [show ((Kd.slice 3 (Kd.int .i64))).sz = 1 from rfl, Nat.mul_one, Nat.add_zero] at hf10_0); (try clear hcl10); (try clear hcc10); (try clear hfr10); (try clear hM10); replace p10 := eq_true p10; replace q10 := eq_true q10; have n_ := Aside0.mk (Kd.S_mono (ok' := (fun k_ => some k_ ≠ (v403 : Value).ownBlock)) HO_3.out (fun k_ hk => hk.2)); clear HO_3; have HO_3 := n_; clear n_; have HX12 := Aside0.mk (show Kd.S (Kd.slice 3 (Kd.int .i64)) 24 w11 w.heap.size (fun k_ => ((fun _ => True)) k_ ∧ ¬ ((fun k_ => some k_ = (v403 : Value).ownBlock)) k_) (.slice (some ⟨go10, 0, none⟩) x3_1.length co10) x3_1 from (by (with_reducible repeat (first | apply Kd.S_alloc | apply Kd.S_drewN | apply Kd.S_drew)); exact Kd.S_mono HO_3.out (fun k_ hk => ⟨trivial, fun e_ => hk e_⟩))); obtain ⟨oki12, ce12, hcl12, hM12, hcc12, hfr12, hoki12, hH12⟩ := Kd.S_elem HX12.out [] (x4_1 : Int) (of_decide_eq_true (by first | (with_reducible assumption) | assumption)) (by have h_ : (x4_1 : Int) < ((x3_1.length : Int) : Int) := of_decide_eq_true (by first | (with_reducible assumption) | assumption); first | exact h_ | (have e_ := (Kd.S_reads' HO_3.out).1; omega) | simpa using h_); obtain ⟨ve12_0, rfl, ge12_0⟩ := hM12; have HP12 := Kd.S_seg hH12 (of_decide_eq_true (by first | (with_reducible assumption) | assumption)) (by have h_ : (x4_1 : Int) < ((x3_1.length : Int) : Int) := of_decide_eq_true (by first | (with_reducible assumption) | assumption); first | exact h_ | (have e_ := (Kd.S_reads' HO_3.out).1; omega) | simpa using h_) (seg := [v403]) (j := 0) (show 1 ≤ 1 from by decide) (x' := t402) (Kd.M_row (Kd.R_mono (Kd.R_tight rfl (Kd.R_mono (ok' := fun k_ => ((fun _ => True)) k_ ∧ k_ ≠ go10) (Kd.R_apart' (HO404.out) (Kd.S_typed HO_3.out) (by decide)) (fun k_ hk => ⟨trivial, fun e_ => (hk.2) (by rw [e_]; rfl)⟩))) (fun _ h_ => Or.inr (h_)))) (fun _ hk => hk) (fun k_ hk_ => ((Kd.R_mono (ok' := fun k_ => ((fun _ => True)) k_ ∧ k_ ≠ go10) (Kd.R_apart' (HO404.out) (Kd.S_typed HO_3.out) (by decide)) (fun k_ hk => ⟨trivial, fun e_ => (hk.2) (by rw [e_]; rfl)⟩))).1 k_ hk_.symm); have hx12_0 := hcc12 0 _ rfl; (try simp only [show ((Kd.slice 3 (Kd.int .i64))).sz = 1 from rfl, Nat.mul_one, Nat.add_zero] at hx12_0); have hf12_0 := hfr12 0; (try simp only [show ((Kd.slice 3 (Kd.int .i64))).sz = 1 from rfl, Nat.mul_one, Nat.add_zero] at hf12_0); (try clear hcl12); (try clear hcc12); (try clear hfr12); (try clear hM12); (try clear hoki12); (try clear hH12); (try simp only [show ((Kd.slice 3 (Kd.int .i64))).sz = 1 from rfl, Nat.mul_one, Nat.add_zero] at HP12)) | ((with_reducible refine gate_store (t := 24) (p := 21) rfl ?_); refine store_event (t := 24) (p := 21) (v := ?vo_w13) (w1 := (w11.setCell ⟨go10, (x4_1 : Int).toNat, none⟩ (v403))) ?hg ?ho ?hn ?hr ?_; (case ho => rfl); (case hg => rfl); (case hn => rfl); (case hr => obtain ⟨A_, c_, e_, _, _⟩ := Kd.R_reads HO404.out; rw [e_]; (first | (go_simp; done) | (go_simp; rfl))); intro w13 hw; have hg : w11.grownBy w13 (some go10) := (by rw [hw]; exact HP12.2); have hp_ : Kd.S (Kd.slice 3 (Kd.int .i64)) 24 w13 w.heap.size (fun _ => True) (.slice (some ⟨go10, 0, none⟩) x3_1.length co10) y405 := (by rw [hw, Ny405.out]; exact HP12.1); clear HP12; have n0_ := Aside0.mk (hp_); have n1_ := Aside0.mk ((by rw [hw]; exact below_set (HB.out) GB10.out : Below w.heap.size w w13)); clear HO_3; clear HB; clear HO404; have HO_3 := n0_; have HB := n1_; clear n0_ n1_; clear hg hw hp_))
                go_roundg k1
                case measure => have := HK1.out; omega
                case rel => exact ⟨(y405), (wrap64 (x4_1 + 1)), (by first | rfl | (simp; done) | (simp [*]; done)), H', ⟨by have := HK1.out; omega⟩, ⟨by (with_reducible repeat (first | apply Kd.S_alloc | apply Kd.S_drewN | apply Kd.S_drew)); exact HO_3.out⟩, ⟨by repeat (first | (with_reducible first | exact HB.out | apply below_alloc | apply pw_below_drewN | apply below_drew1) | exact HB.out)⟩⟩
              · rw [if_neg c9] at H
                exact absurd H (by simp)
            · rw [if_neg c7] at H
              exact absurd H (by simp)
          · rw [if_neg c6] at H
            have c6b0 : decide (x4_1 < (l0.length : Int)) = false := decide_eq_false c6
            clear c6
            obtain rfl := Option.some.inj H
            go_wp2
            go_ret
            exact ⟨_, by first | rfl | (simp [errW_none, errW_some] <;> rfl) | (simp [*, errW_none, errW_some] <;> rfl), by (with_reducible repeat (first | apply Kd.S_alloc | apply Kd.S_drewN | apply Kd.S_drew)); exact HO_3.out, by repeat (first | (with_reducible first | exact HB.out | apply below_alloc | apply pw_below_drewN | apply below_drew1) | exact HB.out)⟩
    · rw [if_neg c3] at H
      exact absurd H (by simp)
  · rw [if_neg c2] at H
    exact absurd H (by simp)

end Go.Proofs.Ytllnieknogficaa.K
namespace Go.Proofs.Ytllnieknogficaa.K
open Go.RowKit Go.Proofs.YtllnieknogficaaW.PrintWords Go.Proofs.YtllnieknogficaaW.PrintLast Go.Proofs.YtllnieknogficaaW.PrintMore
attribute [local go_sem] max2_int min2_int max_two min_two max_three min_three max_four min_four   -- for this text's walks alone
set_option linter.unusedVariables false
set_option linter.unusedSimpArgs false

/-! ### laws_eqIntS: function 45 -/
def laws_eqIntS.l0 : Nat → List Int → List Int → Int → Option (Bool)
  | 0, _, _, _ => none
  | k + 1, x0, x1, x5 => if x5 < (x0.length : Int) then (if 0 ≤ x5 then (if x5 < (x1.length : Int) then (if (rd x0 x5) = (rd x1 x5) then (laws_eqIntS.l0 k x0 x1 (wrap64 (x5 + 1))) else (some false)) else (none)) else (none)) else (some true)
def laws_eqIntS.f (k : Nat) (l0 : List Int) (l1 : List Int) : Option (Bool) := if (l0.length : Int) = (l1.length : Int) then (laws_eqIntS.l0 k l0 l1 0) else (some false)
theorem laws_eqIntS.mono_l : ∀ k, (∀ y0 y1 y2, LeO (laws_eqIntS.l0 k y0 y1 y2) (laws_eqIntS.l0 (k + 1) y0 y1 y2))
  | 0 => fun _ _ _ r h => by simp [laws_eqIntS.l0] at h
  | k + 1 => by
    have ih0 := laws_eqIntS.mono_l k
    · intro y0 y1 y2
      unfold laws_eqIntS.l0
      repeat' first
      | (with_reducible exact ih0 _ _ _)
      | (with_reducible exact LeO.refl _)
      | (with_reducible exact LeO.none _)
      | (with_reducible refine LeO.ite ?_ ?_)
      | (with_reducible refine LeO.bind ?_ (fun _ => ?_))
      | exact ih0 _ _ _
      | exact LeO.none _
      | refine LeO.ite ?_ ?_
      | refine LeO.bind ?_ (fun _ => ?_)
theorem laws_eqIntS.mono : ∀ a0 a1 k, LeO (laws_eqIntS.f k a0 a1) (laws_eqIntS.f (k + 1) a0 a1) := by
  intro a0 a1 k
  have ih0 := laws_eqIntS.mono_l k
  unfold laws_eqIntS.f
  repeat' first
      | (with_reducible exact ih0 _ _ _)
      | (with_reducible exact LeO.refl _)
      | (with_reducible exact LeO.none _)
      | (with_reducible refine LeO.ite ?_ ?_)
      | (with_reducible refine LeO.bind ?_ (fun _ => ?_))
      | exact ih0 _ _ _
      | exact LeO.none _
      | refine LeO.ite ?_ ?_
      | refine LeO.bind ?_ (fun _ => ?_)
set_option maxHeartbeats 8000000 in
set_option maxRecDepth 100000 in
theorem laws_eqIntS.calls (k : Nat) (A0 : Option Addr) (c0 : Nat) (l0 : List Int) (A1 : Option Addr) (c1 : Nat) (l1 : List Int) (r : Bool) (w : World) (hr0 : Kd.C (Kd.int .i64) w A0 l0.length l0) (hc0 : l0.length ≤ c0) (hr1 : Kd.C (Kd.int .i64) w A1 l1.length l1) (hc1 : l1.length ≤ c1) (h : laws_eqIntS.f k l0 l1 = some r) :
    Calls Try.prog 45 #[.slice A0 l0.length c0, .slice A1 l1.length c1] w fun e w' => e = .returned (.bool r) ∧ Drawn0 w w' := by
  have HR0 := Aside0.mk hr0
  have HC0 := Aside0.mk hc0
  clear hr0 hc0
  have HR1 := Aside0.mk hr1
  have HC1 := Aside0.mk hc1
  clear hr1 hc1
  have H : (if (l0.length : Int) = (l1.length : Int) then (laws_eqIntS.l0 k l0 l1 0) else (some false)) = some r := h
  clear h
  by_cases c3 : (l0.length : Int) = (l1.length : Int)
  · rw [if_pos c3] at H
    have c3b0 : ((l0.length : Int) == (l1.length : Int)) = true := beq_iff_eq.mpr c3
    have c3b1 : ((l0.length : Int) != (l1.length : Int)) = false := bne_eq_false_iff_eq.mpr c3
    have c3b2 : (l0.length == l1.length) = true := by first | simpa using c3 | (simp at c3 ⊢; omega)
    clear c3
    have H' := Aside0.mk H
    clear H
    go_enter Try.func45, Try.ntmps45
    go_wp2
    repeat (go_quiet (fail); try go_wp2)
    go_loopg [5] k (fun kq v5 w' => ∃ (x5_1 : Int), v5 = .int .i64 x5_1 ∧ Aside0 (laws_eqIntS.l0 kq l0 l1 x5_1 = some r) ∧ Aside0 (kq ≤ k) ∧ Drawn0 w w')
    case atStart => exact ⟨(0), (by first | rfl | (simp; done) | (simp [*]; done)), H', ⟨Nat.le_refl _⟩, by repeat (first | exact Drawn0.refl _ | apply Drawn0.step)⟩
    case round =>
      clear H'
      try clear c1
      try clear p2
      try clear c3
      try clear c3b0
      try clear c3b1
      try clear c3b2
      obtain ⟨x5_1, rfl, HA, HK1, ⟨m1, rfl⟩⟩ := hrel
      cases gk with
      | zero => exact absurd HA.out (by simp [laws_eqIntS.l0])
      | succ k1 =>
        have H := HA.out
        clear HA
        simp only [laws_eqIntS.l0] at H
        by_cases c4 : x5_1 < (l0.length : Int)
        · rw [if_pos c4] at H
          have c4b0 : decide (x5_1 < (l0.length : Int)) = true := decide_eq_true c4
          clear c4
          by_cases c5 : 0 ≤ x5_1
          · rw [if_pos c5] at H
            have c5b0 : decide (0 ≤ x5_1) = true := decide_eq_true c5
            clear c5
            by_cases c6 : x5_1 < (l1.length : Int)
            · rw [if_pos c6] at H
              have c6b0 : decide (x5_1 < (l1.length : Int)) = true := decide_eq_true c6
              clear c6
              by_cases c7 : (rd l0 x5_1) = (rd l1 x5_1)
              · rw [if_pos c7] at H
                have c7b0 : ((rd l0 x5_1) == (rd l1 x5_1)) = true := beq_iff_eq.mpr c7
                have c7b1 : ((rd l0 x5_1) != (rd l1 x5_1)) = false := bne_eq_false_iff_eq.mpr c7
                clear c7
                have H' := Aside0.mk H
                clear H
                have p421 : 0 ≤ (x5_1 : Int) := of_decide_eq_true (by first | (with_reducible assumption) | assumption)
                have q421 : x5_1 < (l0.length : Int) := of_decide_eq_true (by first | (with_reducible assumption) | assumption)
                obtain ⟨ad421, e421, hx421_0⟩ := Kd.at_int HR0.out x5_1 p421 q421
                cases e421
                replace p421 := eq_true p421
                replace q421 := eq_true q421
                have p422 : 0 ≤ (x5_1 : Int) := of_decide_eq_true (by first | (with_reducible assumption) | assumption)
                have q422 : x5_1 < (l1.length : Int) := of_decide_eq_true (by first | (with_reducible assumption) | assumption)
                obtain ⟨ad422, e422, hx422_0⟩ := Kd.at_int HR1.out x5_1 p422 q422
                cases e422
                replace p422 := eq_true p422
                replace q422 := eq_true q422
                go_wp2
                repeat (go_quiet (fail); try go_wp2)
                go_roundg k1
                case measure => have := HK1.out; omega
                case rel => exact ⟨(wrap64 (x5_1 + 1)), (by first | rfl | (simp; done) | (simp [*]; done)), H', ⟨by have := HK1.out; omega⟩, by repeat (first | exact Drawn0.refl _ | apply Drawn0.step)⟩
              · rw [if_neg c7] at H
                have c7b0 : ((rd l0 x5_1) == (rd l1 x5_1)) = false := beq_eq_false_iff_ne.mpr c7
                have c7b1 : ((rd l0 x5_1) != (rd l1 x5_1)) = true := bne_iff_ne.mpr c7
                obtain rfl := Option.some.inj H
                have p421 : 0 ≤ (x5_1 : Int) := of_decide_eq_true (by first | (with_reducible assumption) | assumption)
                have q421 : x5_1 < (l0.length : Int) := of_decide_eq_true (by first | (with_reducible assumption) | assumption)
                obtain ⟨ad421, e421, hx421_0⟩ := Kd.at_int HR0.out x5_1 p421 q421
                cases e421
                replace p421 := eq_true p421
                replace q421 := eq_true q421
                have p422 : 0 ≤ (x5_1 : Int) := of_decide_eq_true (by first | (with_reducible assumption) | assumption)
                have q422 : x5_1 < (l1.length : Int) := of_decide_eq_true (by first | (with_reducible assumption) | assumption)
                obtain ⟨ad422, e422, hx422_0⟩ := Kd.at_int HR1.out x5_1 p422 q422
                cases e422
                replace p422 := eq_true p422
                replace q422 := eq_true q422
                go_wp2
                repeat (go_quiet (fail); try go_wp2)
                go_ret
                exact ⟨by first | rfl | (simp; done) | (simp [*]; done), by repeat (first | exact Drawn0.refl _ | apply Drawn0.step)⟩
            · rw [if_neg c6] at H
              exact absurd H (by simp)
          · rw [if_neg c5] at H
            exact absurd H (by simp)
        · rw [if_neg c4] at H
          have c4b0 : decide (x5_1 < (l0.length : Int)) = false := decide_eq_false c4
          clear c4
          obtain rfl := Option.some.inj H
          go_wp2
          repeat (go_quiet (fail); try go_wp2)
          go_ret
          exact ⟨by first | rfl | (simp; done) | (simp [*]; done), by repeat (first | exact Drawn0.refl _ | apply Drawn0.step)⟩
  · rw [if_neg c3] at H
    have c3b0 : ((l0.length : Int) == (l1.length : Int)) = false := beq_eq_false_iff_ne.mpr c3
    have c3b1 : ((l0.length : Int) != (l1.length : Int)) = true := bne_iff_ne.mpr c3
    have c3b2 : (l0.length == l1.length) = false := by first | simpa using c3 | (simp at c3 ⊢; omega)
    obtain rfl := Option.some.inj H
    go_enter Try.func45, Try.ntmps45
    go_wp2
    repeat (go_quiet (fail); try go_wp2)
    go_ret
    exact ⟨by first | rfl | (simp; done) | (simp [*]; done), by repeat (first | exact Drawn0.refl _ | apply Drawn0.step)⟩

end Go.Proofs.Ytllnieknogficaa.K
namespace Go.Proofs.Ytllnieknogficaa.K
open Go.RowKit Go.Proofs.YtllnieknogficaaW.PrintWords Go.Proofs.YtllnieknogficaaW.PrintLast Go.Proofs.YtllnieknogficaaW.PrintMore
attribute [local go_sem] max2_int min2_int max_two min_two max_three min_three max_four min_four   -- for this text's walks alone
set_option linter.unusedVariables false
set_option linter.unusedSimpArgs false

/-! ### laws_eqIntSS: function 38 -/
def laws_eqIntSS.l0 : Nat → List (List Int) → List (List Int) → Int → Option (Bool)
  | 0, _, _, _ => none
  | k + 1, x0, x1, x5 => if x5 < (x0.length : Int) then (if 0 ≤ x5 then (if x5 < (x1.length : Int) then ((laws_eqIntS.f k (rd_L2 x0 x5) (rd_L2 x1 x5)).bind fun t425 => (if t425 = true then (laws_eqIntSS.l0 k x0 x1 (wrap64 (x5 + 1))) else (some false))) else (none)) else (none)) else (some true)
def laws_eqIntSS.f (k : Nat) (l0 : List (List Int)) (l1 : List (List Int)) : Option (Bool) := if (l0.length : Int) = (l1.length : Int) then (laws_eqIntSS.l0 k l0 l1 0) else (some false)
theorem laws_eqIntSS.mono_l : ∀ k, (∀ y0 y1 y2, LeO (laws_eqIntSS.l0 k y0 y1 y2) (laws_eqIntSS.l0 (k + 1) y0 y1 y2))
  | 0 => fun _ _ _ r h => by simp [laws_eqIntSS.l0] at h
  | k + 1 => by
    have ih0 := laws_eqIntSS.mono_l k
    · intro y0 y1 y2
      unfold laws_eqIntSS.l0
      repeat' first
      | (with_reducible exact ih0 _ _ _)
      | (with_reducible exact laws_eqIntS.mono _ _ _)
      | (with_reducible exact LeO.refl _)
      | (with_reducible exact LeO.none _)
      | (with_reducible refine LeO.ite ?_ ?_)
      | (with_reducible refine LeO.bind ?_ (fun _ => ?_))
      | exact ih0 _ _ _
      | exact laws_eqIntS.mono _ _ _
      | exact LeO.none _
      | refine LeO.ite ?_ ?_
      | refine LeO.bind ?_ (fun _ => ?_)
theorem laws_eqIntSS.mono : ∀ a0 a1 k, LeO (laws_eqIntSS.f k a0 a1) (laws_eqIntSS.f (k + 1) a0 a1) := by
  intro a0 a1 k
  have ih0 := laws_eqIntSS.mono_l k
  unfold laws_eqIntSS.f
  repeat' first
      | (with_reducible exact ih0 _ _ _)
      | (with_reducible exact laws_eqIntS.mono _ _ _)
      | (with_reducible exact LeO.refl _)
      | (with_reducible exact LeO.none _)
      | (with_reducible refine LeO.ite ?_ ?_)
      | (with_reducible refine LeO.bind ?_ (fun _ => ?_))
      | exact ih0 _ _ _
      | exact laws_eqIntS.mono _ _ _
      | exact LeO.none _
      | refine LeO.ite ?_ ?_
      | refine LeO.bind ?_ (fun _ => ?_)
set_option maxHeartbeats 8000000 in
set_option maxRecDepth 100000 in
theorem laws_eqIntSS.calls (k : Nat) (A0 : Option Addr) (c0 : Nat) (l0 : List (List Int)) (A1 : Option Addr) (c1 : Nat) (l1 : List (List Int)) (r : Bool) (w : World) (hr0 : Kd.C (Kd.slice 3 (Kd.int .i64)) w A0 l0.length l0) (hc0 : l0.length ≤ c0) (hr1 : Kd.C (Kd.slice 3 (Kd.int .i64)) w A1 l1.length l1) (hc1 : l1.length ≤ c1) (h : laws_eqIntSS.f k l0 l1 = some r) :
    Calls Try.prog 38 #[.slice A0 l0.length c0, .slice A1 l1.length c1] w fun e w' => e = .returned (.bool r) ∧ Drawn0 w w' := by
  have HR0 := Aside0.mk hr0
  have HC0 := Aside0.mk hc0
  clear hr0 hc0
  have HR1 := Aside0.mk hr1
  have HC1 := Aside0.mk hc1
  clear hr1 hc1
  have H : (if (l0.length : Int) = (l1.length : Int) then (laws_eqIntSS.l0 k l0 l1 0) else (some false)) = some r := h
  clear h
  by_cases c3 : (l0.length : Int) = (l1.length : Int)
  · rw [if_pos c3] at H
    have c3b0 : ((l0.length : Int) == (l1.length : Int)) = true := beq_iff_eq.mpr c3
    have c3b1 : ((l0.length : Int) != (l1.length : Int)) = false := bne_eq_false_iff_eq.mpr c3
    have c3b2 : (l0.length == l1.length) = true := by first | simpa using c3 | (simp at c3 ⊢; omega)
    clear c3
    have H' := Aside0.mk H
    clear H
    go_enter Try.func38, Try.ntmps38
    go_wp2
    repeat (go_quiet (fail); try go_wp2)
    go_loopg [5] k (fun kq v5 w' => ∃ (x5_1 : Int), v5 = .int .i64 x5_1 ∧ Aside0 (laws_eqIntSS.l0 kq l0 l1 x5_1 = some r) ∧ Aside0 (kq ≤ k) ∧ Drawn0 w w')
    case atStart => exact ⟨(0), (by first | rfl | (simp; done) | (simp [*]; done)), H', ⟨Nat.le_refl _⟩, by repeat (first | exact Drawn0.refl _ | apply Drawn0.step)⟩
    case round =>
      clear H'
      try clear c1
      try clear p2
      try clear c3
      try clear c3b0
      try clear c3b1
      try clear c3b2
      obtain ⟨x5_1, rfl, HA, HK1, ⟨m1, rfl⟩⟩ := hrel
      cases gk with
      | zero => exact absurd HA.out (by simp [laws_eqIntSS.l0])
      | succ k1 =>
        have H := HA.out
        clear HA
        simp only [laws_eqIntSS.l0] at H
        by_cases c4 : x5_1 < (l0.length : Int)
        · rw [if_pos c4] at H
          have c4b0 : decide (x5_1 < (l0.length : Int)) = true := decide_eq_true c4
          clear c4
          by_cases c5 : 0 ≤ x5_1
          · rw [if_pos c5] at H
            have c5b0 : decide (0 ≤ x5_1) = true := decide_eq_true c5
            clear c5
            by_cases c6 : x5_1 < (l1.length : Int)
            · rw [if_pos c6] at H
              have c6b0 : decide (x5_1 < (l1.length : Int)) = true := decide_eq_true c6
              clear c6
              replace H := Option.bind_eq_some_iff.mp H
              obtain ⟨t425, A70, H⟩ := H
              replace H : (if t425 = true then (laws_eqIntSS.l0 k1 l0 l1 (wrap64 (x5_1 + 1))) else (some false)) = some r := H
              have A7 := Aside0.mk A70
              clear A70
              by_cases c8 : t425 = true
              · subst c8
                have H1 : (laws_eqIntSS.l0 k1 l0 l1 (wrap64 (x5_1 + 1))) = some r := by rw [if_pos rfl] at H; exact H
                clear H
                have H := H1
                clear H1
                have H' := Aside0.mk H
                clear H
                have p423 : 0 ≤ (x5_1 : Int) := of_decide_eq_true (by first | (with_reducible assumption) | assumption)
                have q423 : x5_1 < (l0.length : Int) := of_decide_eq_true (by first | (with_reducible assumption) | assumption)
                obtain ⟨ad423, A423_0, c423_0, e423, hx423_0, hl423_0, hi423_0⟩ := at_L2 HR0.out x5_1 p423 q423
                cases e423
                have HR423_0 := Aside0.mk hi423_0
                have HC423_0 := Aside0.mk hl423_0
                clear hi423_0 hl423_0
                replace p423 := eq_true p423
                replace q423 := eq_true q423
                have p424 : 0 ≤ (x5_1 : Int) := of_decide_eq_true (by first | (with_reducible assumption) | assumption)
                have q424 : x5_1 < (l1.length : Int) := of_decide_eq_true (by first | (with_reducible assumption) | assumption)
                obtain ⟨ad424, A424_0, c424_0, e424, hx424_0, hl424_0, hi424_0⟩ := at_L2 HR1.out x5_1 p424 q424
                cases e424
                have HR424_0 := Aside0.mk hi424_0
                have HC424_0 := Aside0.mk hl424_0
                clear hi424_0 hl424_0
                replace p424 := eq_true p424
                replace q424 := eq_true q424
                go_wp2_with (first | (go_at_call 45; (with_reducible refine (laws_eqIntS.calls k1 _ _ (rd_L2 l0 x5_1) _ _ (rd_L2 l1 x5_1) true _ ?side1 ?side2 ?side3 ?side4 A7.out).mono ?_); (case side1 => repeat (first | exact HR423_0.out | (with_reducible refine Kd.C_alloc ?_ _) | (with_reducible refine Kd.C_drewN ?_ _) | (with_reducible refine Kd.C_drew ?_))); (case side2 => exact HC423_0.out); (case side3 => repeat (first | exact HR424_0.out | (with_reducible refine Kd.C_alloc ?_ _) | (with_reducible refine Kd.C_drewN ?_ _) | (with_reducible refine Kd.C_drew ?_))); (case side4 => exact HC424_0.out); rintro e w' ⟨rfl, ⟨nd, rfl⟩⟩; (try first | exact ⟨rfl, _, World.drewN_drewN _ _ _⟩ | exact ⟨rfl, _, Eq.trans (World.drewN_drewN _ _ _) (congrArg (World.drewN _) (Nat.add_assoc _ _ _))⟩)))
                repeat (go_quiet (first | (go_at_call 45; (with_reducible refine (laws_eqIntS.calls k1 _ _ (rd_L2 l0 x5_1) _ _ (rd_L2 l1 x5_1) true _ ?side1 ?side2 ?side3 ?side4 A7.out).mono ?_); (case side1 => repeat (first | exact HR423_0.out | (with_reducible refine Kd.C_alloc ?_ _) | (with_reducible refine Kd.C_drewN ?_ _) | (with_reducible refine Kd.C_drew ?_))); (case side2 => exact HC423_0.out); (case side3 => repeat (first | exact HR424_0.out | (with_reducible refine Kd.C_alloc ?_ _) | (with_reducible refine Kd.C_drewN ?_ _) | (with_reducible refine Kd.C_drew ?_))); (case side4 => exact HC424_0.out); rintro e w' ⟨rfl, ⟨nd, rfl⟩⟩; (try first | exact ⟨rfl, _, World.drewN_drewN _ _ _⟩ | exact ⟨rfl, _, Eq.trans (World.drewN_drewN _ _ _) (congrArg (World.drewN _) (Nat.add_assoc _ _ _))⟩))); try go_wp2_with (first | (go_at_call 45; (with_reducible refine (laws_eqIntS.calls k1 _ _ (rd_L2 l0 x5_1) _ _ (rd_L2 l1 x5_1) true _ ?side1 ?side2 ?side3 ?side4 A7.out).mono ?_); (case side1 => repeat (first | exact HR423_0.out | (with_reducible refine Kd.C_alloc ?_ _) | (with_reducible refine Kd.C_drewN ?_ _) | (with_reducible refine Kd.C_drew ?_))); (case side2 => exact HC423_0.out); (case side3 => repeat (first | exact HR424_0.out | (with_reducible refine Kd.C_alloc ?_ _) | (with_reducible refine Kd.C_drewN ?_ _) | (with_reducible refine Kd.C_drew ?_))); (case side4 => exact HC424_0.out); rintro e w' ⟨rfl, ⟨nd, rfl⟩⟩; (try first | exact ⟨rfl, _, World.drewN_drewN _ _ _⟩ | exact ⟨rfl, _, Eq.trans (World.drewN_drewN _ _ _) (congrArg (World.drewN _) (Nat.add_assoc _ _ _))⟩))))
                go_roundg k1
                case measure => have := HK1.out; omega
                case rel => exact ⟨(wrap64 (x5_1 + 1)), (by first | rfl | (simp; done) | (simp [*]; done)), H', ⟨by have := HK1.out; omega⟩, by repeat (first | exact Drawn0.refl _ | apply Drawn0.step)⟩
              · replace c8 := Bool.eq_false_iff.mpr c8
                subst c8
                have H1 : (some false) = some r := by rw [if_neg (show ¬ (false = true) by decide)] at H; exact H
                clear H
                have H := H1
                clear H1
                obtain rfl := Option.some.inj H
                have p423 : 0 ≤ (x5_1 : Int) := of_decide_eq_true (by first | (with_reducible assumption) | assumption)
                have q423 : x5_1 < (l0.length : Int) := of_decide_eq_true (by first | (with_reducible assumption) | assumption)
                obtain ⟨ad423, A423_0, c423_0, e423, hx423_0, hl423_0, hi423_0⟩ := at_L2 HR0.out x5_1 p423 q423
                cases e423
                have HR423_0 := Aside0.mk hi423_0
                have HC423_0 := Aside0.mk hl423_0
                clear hi423_0 hl423_0
                replace p423 := eq_true p423
                replace q423 := eq_true q423
                have p424 : 0 ≤ (x5_1 : Int) := of_decide_eq_true (by first | (with_reducible assumption) | assumption)
                have q424 : x5_1 < (l1.length : Int) := of_decide_eq_true (by first | (with_reducible assumption) | assumption)
                obtain ⟨ad424, A424_0, c424_0, e424, hx424_0, hl424_0, hi424_0⟩ := at_L2 HR1.out x5_1 p424 q424
                cases e424
                have HR424_0 := Aside0.mk hi424_0
                have HC424_0 := Aside0.mk hl424_0
                clear hi424_0 hl424_0
                replace p424 := eq_true p424
                replace q424 := eq_true q424
                go_wp2_with (first | (go_at_call 45; (with_reducible refine (laws_eqIntS.calls k1 _ _ (rd_L2 l0 x5_1) _ _ (rd_L2 l1 x5_1) false _ ?side1 ?side2 ?side3 ?side4 A7.out).mono ?_); (case side1 => repeat (first | exact HR423_0.out | (with_reducible refine Kd.C_alloc ?_ _) | (with_reducible refine Kd.C_drewN ?_ _) | (with_reducible refine Kd.C_drew ?_))); (case side2 => exact HC423_0.out); (case side3 => repeat (first | exact HR424_0.out | (with_reducible refine Kd.C_alloc ?_ _) | (with_reducible refine Kd.C_drewN ?_ _) | (with_reducible refine Kd.C_drew ?_))); (case side4 => exact HC424_0.out); rintro e w' ⟨rfl, ⟨nd, rfl⟩⟩; (try first | exact ⟨rfl, _, World.drewN_drewN _ _ _⟩ | exact ⟨rfl, _, Eq.trans (World.drewN_drewN _ _ _) (congrArg (World.drewN _) (Nat.add_assoc _ _ _))⟩)))
                repeat (go_quiet (first | (go_at_call 45; (with_reducible refine (laws_eqIntS.calls k1 _ _ (rd_L2 l0 x5_1) _ _ (rd_L2 l1 x5_1) false _ ?side1 ?side2 ?side3 ?side4 A7.out).mono ?_); (case side1 => repeat (first | exact HR423_0.out | (with_reducible refine Kd.C_alloc ?_ _) | (with_reducible refine Kd.C_drewN ?_ _) | (with_reducible refine Kd.C_drew ?_))); (case side2 => exact HC423_0.out); (case side3 => repeat (first | exact HR424_0.out | (with_reducible refine Kd.C_alloc ?_ _) | (with_reducible refine Kd.C_drewN ?_ _) | (with_reducible refine Kd.C_drew ?_))); (case side4 => exact HC424_0.out); rintro e w' ⟨rfl, ⟨nd, rfl⟩⟩; (try first | exact ⟨rfl, _, World.drewN_drewN _ _ _⟩ | exact ⟨rfl, _, Eq.trans (World.drewN_drewN _ _ _) (congrArg (World.drewN _) (Nat.add_assoc _ _ _))⟩))); try go_wp2_with (first | (go_at_call 45; (with_reducible refine (laws_eqIntS.calls k1 _ _ (rd_L2 l0 x5_1) _ _ (rd_L2 l1 x5_1) false _ ?side1 ?side2 ?side3 ?side4 A7.out).mono ?_); (case side1 => repeat (first | exact HR423_0.out | (with_reducible refine Kd.C_alloc ?_ _) | (with_reducible refine Kd.C_drewN ?_ _) | (with_reducible refine Kd.C_drew ?_))); (case side2 => exact HC423_0.out); (case side3 => repeat (first | exact HR424_0.out | (with_reducible refine Kd.C_alloc ?_ _) | (with_reducible refine Kd.C_drewN ?_ _) | (with_reducible refine Kd.C_drew ?_))); (case side4 => exact HC424_0.out); rintro e w' ⟨rfl, ⟨nd, rfl⟩⟩; (try first | exact ⟨rfl, _, World.drewN_drewN _ _ _⟩ | exact ⟨rfl, _, Eq.trans (World.drewN_drewN _ _ _) (congrArg (World.drewN _) (Nat.add_assoc _ _ _))⟩))))
                go_ret
                exact ⟨by first | rfl | (simp; done) | (simp [*]; done), by repeat (first | exact Drawn0.refl _ | apply Drawn0.step)⟩
            · rw [if_neg c6] at H
              exact absurd H (by simp)
          · rw [if_neg c5] at H
            exact absurd H (by simp)
        · rw [if_neg c4] at H
          have c4b0 : decide (x5_1 < (l0.length : Int)) = false := decide_eq_false c4
          clear c4
          obtain rfl := Option.some.inj H
          go_wp2
          repeat (go_quiet (fail); try go_wp2)
          go_ret
          exact ⟨by first | rfl | (simp; done) | (simp [*]; done), by repeat (first | exact Drawn0.refl _ | apply Drawn0.step)⟩
  · rw [if_neg c3] at H
    have c3b0 : ((l0.length : Int) == (l1.length : Int)) = false := beq_eq_false_iff_ne.mpr c3
    have c3b1 : ((l0.length : Int) != (l1.length : Int)) = true := bne_iff_ne.mpr c3
    have c3b2 : (l0.length == l1.length) = false := by first | simpa using c3 | (simp at c3 ⊢; omega)
    obtain rfl := Option.some.inj H
    go_enter Try.func38, Try.ntmps38
    go_wp2
    repeat (go_quiet (fail); try go_wp2)
    go_ret
    exact ⟨by first | rfl | (simp; done) | (simp [*]; done), by repeat (first | exact Drawn0.refl _ | apply Drawn0.step)⟩

end Go.Proofs.Ytllnieknogficaa.K
namespace Go.Proofs.Ytllnieknogficaa.K
open Go.RowKit Go.Proofs.YtllnieknogficaaW.PrintWords Go.Proofs.YtllnieknogficaaW.PrintLast Go.Proofs.YtllnieknogficaaW.PrintMore
attribute [local go_sem] max2_int min2_int max_two min_two max_three min_three max_four min_four   -- for this text's walks alone
set_option linter.unusedVariables false
set_option linter.unusedSimpArgs false

/-! ### laws_heldIntS: function 47 -/
def laws_heldIntS.l0 : Nat → List Int → Int → Int → Option (Int)
  | 0, _, _, _ => none
  | k + 1, x0, x1, x5 => if x5 < (x0.length : Int) then (if 0 ≤ x5 then (if (rd x0 x5) = x1 then (laws_heldIntS.l0 k x0 (wrap64 (x1 + 1)) (wrap64 (x5 + 1))) else (some (-1))) else (none)) else (some x1)
def laws_heldIntS.f (k : Nat) (l0 : List Int) (a1 : Int) : Option (Int) := laws_heldIntS.l0 k l0 a1 0
theorem laws_heldIntS.mono_l : ∀ k, (∀ y0 y1 y2, LeO (laws_heldIntS.l0 k y0 y1 y2) (laws_heldIntS.l0 (k + 1) y0 y1 y2))
  | 0 => fun _ _ _ r h => by simp [laws_heldIntS.l0] at h
  | k + 1 => by
    have ih0 := laws_heldIntS.mono_l k
    · intro y0 y1 y2
      unfold laws_heldIntS.l0
      repeat' first
      | (with_reducible exact ih0 _ _ _)
      | (with_reducible exact LeO.refl _)
      | (with_reducible exact LeO.none _)
      | (with_reducible refine LeO.ite ?_ ?_)
      | (with_reducible refine LeO.bind ?_ (fun _ => ?_))
      | exact ih0 _ _ _
      | exact LeO.none _
      | refine LeO.ite ?_ ?_
      | refine LeO.bind ?_ (fun _ => ?_)
theorem laws_heldIntS.mono : ∀ a0 a1 k, LeO (laws_heldIntS.f k a0 a1) (laws_heldIntS.f (k + 1) a0 a1) := by
  intro a0 a1 k
  have ih0 := laws_heldIntS.mono_l k
  unfold laws_heldIntS.f
  repeat' first
      | (with_reducible exact ih0 _ _ _)
      | (with_reducible exact LeO.refl _)
      | (with_reducible exact LeO.none _)
      | (with_reducible refine LeO.ite ?_ ?_)
      | (with_reducible refine LeO.bind ?_ (fun _ => ?_))
      | exact ih0 _ _ _
      | exact LeO.none _
      | refine LeO.ite ?_ ?_
      | refine LeO.bind ?_ (fun _ => ?_)
set_option maxHeartbeats 8000000 in
set_option maxRecDepth 100000 in
theorem laws_heldIntS.calls (k : Nat) (A0 : Option Addr) (c0 : Nat) (l0 : List Int) (a1 : Int) (r : Int) (w : World) (hr0 : Kd.C (Kd.int .i64) w A0 l0.length l0) (hc0 : l0.length ≤ c0) (h : laws_heldIntS.f k l0 a1 = some r) :
    Calls Try.prog 47 #[.slice A0 l0.length c0, .int .i64 a1] w fun e w' => e = .returned (.int .i64 r) ∧ Drawn0 w w' := by
  have HR0 := Aside0.mk hr0
  have HC0 := Aside0.mk hc0
  clear hr0 hc0
  have H : (laws_heldIntS.l0 k l0 a1 0) = some r := h
  clear h
  have H' := Aside0.mk H
  clear H
  go_enter Try.func47, Try.ntmps47
  go_wp2
  go_loopg [1, 5] k (fun kq v1 v5 w' => ∃ (x1_1 : Int) (x5_1 : Int), v1 = .int .i64 x1_1 ∧ v5 = .int .i64 x5_1 ∧ Aside0 (laws_heldIntS.l0 kq l0 x1_1 x5_1 = some r) ∧ Aside0 (kq ≤ k) ∧ Drawn0 w w')
  case atStart => exact ⟨(a1), (0), (by first | rfl | (simp; done) | (simp [*]; done)), (by first | rfl | (simp; done) | (simp [*]; done)), H', ⟨Nat.le_refl _⟩, by repeat (first | exact Drawn0.refl _ | apply Drawn0.step)⟩
  case round =>
    clear H'
    try clear p2
    obtain ⟨x1_1, x5_1, rfl, rfl, HA, HK1, ⟨m1, rfl⟩⟩ := hrel
    cases gk with
    | zero => exact absurd HA.out (by simp [laws_heldIntS.l0])
    | succ k1 =>
      have H := HA.out
      clear HA
      simp only [laws_heldIntS.l0] at H
      by_cases c3 : x5_1 < (l0.length : Int)
      · rw [if_pos c3] at H
        have c3b0 : decide (x5_1 < (l0.length : Int)) = true := decide_eq_true c3
        clear c3
        by_cases c4 : 0 ≤ x5_1
        · rw [if_pos c4] at H
          have c4b0 : decide (0 ≤ x5_1) = true := decide_eq_true c4
          clear c4
          by_cases c5 : (rd l0 x5_1) = x1_1
          · rw [if_pos c5] at H
            have c5b0 : ((rd l0 x5_1) == x1_1) = true := beq_iff_eq.mpr c5
            have c5b1 : ((rd l0 x5_1) != x1_1) = false := bne_eq_false_iff_eq.mpr c5
            clear c5
            have H' := Aside0.mk H
            clear H
            have p427 : 0 ≤ (x5_1 : Int) := of_decide_eq_true (by first | (with_reducible assumption) | assumption)
            have q427 : x5_1 < (l0.length : Int) := of_decide_eq_true (by first | (with_reducible assumption) | assumption)
            obtain ⟨ad427, e427, hx427_0⟩ := Kd.at_int HR0.out x5_1 p427 q427
            cases e427
            replace p427 := eq_true p427
            replace q427 := eq_true q427
            go_wp2
            go_roundg k1
            case measure => have := HK1.out; omega
            case rel => exact ⟨(wrap64 (x1_1 + 1)), (wrap64 (x5_1 + 1)), (by first | rfl | (simp; done) | (simp [*]; done)), (by first | rfl | (simp; done) | (simp [*]; done)), H', ⟨by have := HK1.out; omega⟩, by repeat (first | exact Drawn0.refl _ | apply Drawn0.step)⟩
          · rw [if_neg c5] at H
            have c5b0 : ((rd l0 x5_1) == x1_1) = false := beq_eq_false_iff_ne.mpr c5
            have c5b1 : ((rd l0 x5_1) != x1_1) = true := bne_iff_ne.mpr c5
            obtain rfl := Option.some.inj H
            have p427 : 0 ≤ (x5_1 : Int) := of_decide_eq_true (by first | (with_reducible assumption) | assumption)
            have q427 : x5_1 < (l0.length : Int) := of_decide_eq_true (by first | (with_reducible assumption) | assumption)
            obtain ⟨ad427, e427, hx427_0⟩ := Kd.at_int HR0.out x5_1 p427 q427
            cases e427
            replace p427 := eq_true p427
            replace q427 := eq_true q427
            go_wp2
            go_ret
            exact ⟨by first | rfl | (simp; done) | (simp [*]; done), by repeat (first | exact Drawn0.refl _ | apply Drawn0.step)⟩
        · rw [if_neg c4] at H
          exact absurd H (by simp)
      · rw [if_neg c3] at H
        have c3b0 : decide (x5_1 < (l0.length : Int)) = false := decide_eq_false c3
        clear c3
        obtain rfl := Option.some.inj H
        go_wp2
        go_ret
        exact ⟨by first | rfl | (simp; done) | (simp [*]; done), by repeat (first | exact Drawn0.refl _ | apply Drawn0.step)⟩

end Go.Proofs.Ytllnieknogficaa.K
namespace Go.Proofs.Ytllnieknogficaa.K
open Go.RowKit Go.Proofs.YtllnieknogficaaW.PrintWords Go.Proofs.YtllnieknogficaaW.PrintLast Go.Proofs.YtllnieknogficaaW.PrintMore
attribute [local go_sem] max2_int min2_int max_two min_two max_three min_three max_four min_four   -- for this text's walks alone
set_option linter.unusedVariables false
set_option linter.unusedSimpArgs false

/-! ### laws_heldIntSS: function 40 -/
def laws_heldIntSS.l0 : Nat → List (List Int) → Int → Int → Option (Int)
  | 0, _, _, _ => none
  | k + 1, x0, x1, x5 => if x5 < (x0.length : Int) then (if 0 ≤ x5 then ((laws_heldIntS.f k (rd_L2 x0 x5) x1).bind fun t429 => (if t429 < 0 then (some (-1)) else (laws_heldIntSS.l0 k x0 t429 (wrap64 (x5 + 1))))) else (none)) else (some x1)
def laws_heldIntSS.f (k : Nat) (l0 : List (List Int)) (a1 : Int) : Option (Int) := laws_heldIntSS.l0 k l0 a1 0
theorem laws_heldIntSS.mono_l : ∀ k, (∀ y0 y1 y2, LeO (laws_heldIntSS.l0 k y0 y1 y2) (laws_heldIntSS.l0 (k + 1) y0 y1 y2))
  | 0 => fun _ _ _ r h => by simp [laws_heldIntSS.l0] at h
  | k + 1 => by
    have ih0 := laws_heldIntSS.mono_l k
    · intro y0 y1 y2
      unfold laws_heldIntSS.l0
      repeat' first
      | (with_reducible exact ih0 _ _ _)
      | (with_reducible exact laws_heldIntS.mono _ _ _)
      | (with_reducible exact LeO.refl _)
      | (with_reducible exact LeO.none _)
      | (with_reducible refine LeO.ite ?_ ?_)
      | (with_reducible refine LeO.bind ?_ (fun _ => ?_))
      | exact ih0 _ _ _
      | exact laws_heldIntS.mono _ _ _
      | exact LeO.none _
      | refine LeO.ite ?_ ?_
      | refine LeO.bind ?_ (fun _ => ?_)
theorem laws_heldIntSS.mono : ∀ a0 a1 k, LeO (laws_heldIntSS.f k a0 a1) (laws_heldIntSS.f (k + 1) a0 a1) := by
  intro a0 a1 k
  have ih0 := laws_heldIntSS.mono_l k
  unfold laws_heldIntSS.f
  repeat' first
      | (with_reducible exact ih0 _ _ _)
      | (with_reducible exact laws_heldIntS.mono _ _ _)
      | (with_reducible exact LeO.refl _)
      | (with_reducible exact LeO.none _)
      | (with_reducible refine LeO.ite ?_ ?_)
      | (with_reducible refine LeO.bind ?_ (fun _ => ?_))
      | exact ih0 _ _ _
      | exact laws_heldIntS.mono _ _ _
      | exact LeO.none _
      | refine LeO.ite ?_ ?_
      | refine LeO.bind ?_ (fun _ => ?_)
set_option maxHeartbeats 8000000 in
set_option maxRecDepth 100000 in
theorem laws_heldIntSS.calls (k : Nat) (A0 : Option Addr) (c0 : Nat) (l0 : List (List Int)) (a1 : Int) (r : Int) (w : World) (hr0 : Kd.C (Kd.slice 3 (Kd.int .i64)) w A0 l0.length l0) (hc0 : l0.length ≤ c0) (h : laws_heldIntSS.f k l0 a1 = some r) :
    Calls Try.prog 40 #[.slice A0 l0.length c0, .int .i64 a1] w fun e w' => e = .returned (.int .i64 r) ∧ Drawn0 w w' := by
  have HR0 := Aside0.mk hr0
  have HC0 := Aside0.mk hc0
  clear hr0 hc0
  have H : (laws_heldIntSS.l0 k l0 a1 0) = some r := h
  clear h
  have H' := Aside0.mk H
  clear H
  go_enter Try.func40, Try.ntmps40
  go_wp2
  go_loopg [1, 5] k (fun kq v1 v5 w' => ∃ (x1_1 : Int) (x5_1 : Int), v1 = .int .i64 x1_1 ∧ v5 = .int .i64 x5_1 ∧ Aside0 (laws_heldIntSS.l0 kq l0 x1_1 x5_1 = some r) ∧ Aside0 (kq ≤ k) ∧ Drawn0 w w')
  case atStart => exact ⟨(a1), (0), (by first | rfl | (simp; done) | (simp [*]; done)), (by first | rfl | (simp; done) | (simp [*]; done)), H', ⟨Nat.le_refl _⟩, by repeat (first | exact Drawn0.refl _ | apply Drawn0.step)⟩
  case round =>
    clear H'
    try clear p2
    obtain ⟨x1_1, x5_1, rfl, rfl, HA, HK1, ⟨m1, rfl⟩⟩ := hrel
    cases gk with
    | zero => exact absurd HA.out (by simp [laws_heldIntSS.l0])
    | succ k1 =>
      have H := HA.out
      clear HA
      simp only [laws_heldIntSS.l0] at H
      by_cases c3 : x5_1 < (l0.length : Int)
      · rw [if_pos c3] at H
        have c3b0 : decide (x5_1 < (l0.length : Int)) = true := decide_eq_true c3
        clear c3
        by_cases c4 : 0 ≤ x5_1
        · rw [if_pos c4] at H
          have c4b0 : decide (0 ≤ x5_1) = true := decide_eq_true c4
          clear c4
          replace H := Option.bind_eq_some_iff.mp H
          obtain ⟨t429, A50, H⟩ := H
          replace H : (if t429 < 0 then (some (-1)) else (laws_heldIntSS.l0 k1 l0 t429 (wrap64 (x5_1 + 1)))) = some r := H
          have A5 := Aside0.mk A50
          clear A50
          by_cases c6 : t429 < 0
          · rw [if_pos c6] at H
            have c6b0 : decide (t429 < 0) = true := decide_eq_true c6
            clear c6
            obtain rfl := Option.some.inj H
            have p428 : 0 ≤ (x5_1 : Int) := of_decide_eq_true (by first | (with_reducible assumption) | assumption)
            have q428 : x5_1 < (l0.length : Int) := of_decide_eq_true (by first | (with_reducible assumption) | assumption)
            obtain ⟨ad428, A428_0, c428_0, e428, hx428_0, hl428_0, hi428_0⟩ := at_L2 HR0.out x5_1 p428 q428
            cases e428
            have HR428_0 := Aside0.mk hi428_0
            have HC428_0 := Aside0.mk hl428_0
            clear hi428_0 hl428_0
            replace p428 := eq_true p428
            replace q428 := eq_true q428
            go_wp2_with (first | ((with_reducible refine gate_callee (f := 47) rfl ?_); refine goesL_ (some 17) rfl rfl Try.func47 (by kernel_rfl) rfl #[.slice A428_0 (rd_L2 l0 x5_1).length c428_0, .int .i64 x1_1] rfl (by (try simp only [List.map_toArray, List.map_cons, List.map_nil]); first | done | rfl | (simp only [List.length_drop, List.length_take]; rfl)) ?_; (with_reducible refine (laws_heldIntS.calls k1 _ _ (rd_L2 l0 x5_1) x1_1 t429 _ ?side1 ?side2 A5.out).mono ?_); (case side1 => repeat (first | exact HR428_0.out | (with_reducible refine Kd.C_alloc ?_ _) | (with_reducible refine Kd.C_drewN ?_ _) | (with_reducible refine Kd.C_drew ?_))); (case side2 => exact HC428_0.out); rintro e w' ⟨rfl, ⟨nd, rfl⟩⟩; refine ⟨_, rfl, ?_⟩))
            go_ret
            exact ⟨by first | rfl | (simp; done) | (simp [*]; done), by repeat (first | exact Drawn0.refl _ | apply Drawn0.step)⟩
          · rw [if_neg c6] at H
            have c6b0 : decide (t429 < 0) = false := decide_eq_false c6
            clear c6
            have H' := Aside0.mk H
            clear H
            have p428 : 0 ≤ (x5_1 : Int) := of_decide_eq_true (by first | (with_reducible assumption) | assumption)
            have q428 : x5_1 < (l0.length : Int) := of_decide_eq_true (by first | (with_reducible assumption) | assumption)
            obtain ⟨ad428, A428_0, c428_0, e428, hx428_0, hl428_0, hi428_0⟩ := at_L2 HR0.out x5_1 p428 q428
            cases e428
            have HR428_0 := Aside0.mk hi428_0
            have HC428_0 := Aside0.mk hl428_0
            clear hi428_0 hl428_0
            replace p428 := eq_true p428
            replace q428 := eq_true q428
            go_wp2_with (first | ((with_reducible refine gate_callee (f := 47) rfl ?_); refine goesL_ (some 17) rfl rfl Try.func47 (by kernel_rfl) rfl #[.slice A428_0 (rd_L2 l0 x5_1).length c428_0, .int .i64 x1_1] rfl (by (try simp only [List.map_toArray, List.map_cons, List.map_nil]); first | done | rfl | (simp only [List.length_drop, List.length_take]; rfl)) ?_; (with_reducible refine (laws_heldIntS.calls k1 _ _ (rd_L2 l0 x5_1) x1_1 t429 _ ?side1 ?side2 A5.out).mono ?_); (case side1 => repeat (first | exact HR428_0.out | (with_reducible refine Kd.C_alloc ?_ _) | (with_reducible refine Kd.C_drewN ?_ _) | (with_reducible refine Kd.C_drew ?_))); (case side2 => exact HC428_0.out); rintro e w' ⟨rfl, ⟨nd, rfl⟩⟩; refine ⟨_, rfl, ?_⟩))
            go_roundg k1
            case measure => have := HK1.out; omega
            case rel => exact ⟨(t429), (wrap64 (x5_1 + 1)), (by first | rfl | (simp; done) | (simp [*]; done)), (by first | rfl | (simp; done) | (simp [*]; done)), H', ⟨by have := HK1.out; omega⟩, by repeat (first | exact Drawn0.refl _ | apply Drawn0.step)⟩
        · rw [if_neg c4] at H
          exact absurd H (by simp)
      · rw [if_neg c3] at H
        have c3b0 : decide (x5_1 < (l0.length : Int)) = false := decide_eq_false c3
        clear c3
        obtain rfl := Option.some.inj H
        go_wp2
        go_ret
        exact ⟨by first | rfl | (simp; done) | (simp [*]; done), by repeat (first | exact Drawn0.refl _ | apply Drawn0.step)⟩

end Go.Proofs.Ytllnieknogficaa.K
namespace Go.Proofs.Ytllnieknogficaa.K
open Go.RowKit Go.Proofs.YtllnieknogficaaW.PrintWords Go.Proofs.YtllnieknogficaaW.PrintLast Go.Proofs.YtllnieknogficaaW.PrintMore
attribute [local go_sem] max2_int min2_int max_two min_two max_three min_three max_four min_four   -- for this text's walks alone
set_option linter.unusedVariables false
set_option linter.unusedSimpArgs false

/-! ### laws_markIntS: function 46 -/
def laws_markIntS.l0 : Nat → List Int → Int → Int → Option (Int × List Int)
  | 0, _, _, _ => none
  | k + 1, x0, x1, x5 => if x5 < (x0.length : Int) then (if 0 ≤ x5 then (laws_markIntS.l0 k (x0.set (x5 : Int).toNat x1) (wrap64 (x1 + 1)) (wrap64 (x5 + 1))) else (none)) else (some (x1, x0))
def laws_markIntS.f (k : Nat) (l0 : List Int) (a1 : Int) : Option (Int × List Int) := laws_markIntS.l0 k l0 a1 0
theorem laws_markIntS.mono_l : ∀ k, (∀ y0 y1 y2, LeO (laws_markIntS.l0 k y0 y1 y2) (laws_markIntS.l0 (k + 1) y0 y1 y2))
  | 0 => fun _ _ _ r h => by simp [laws_markIntS.l0] at h
  | k + 1 => by
    have ih0 := laws_markIntS.mono_l k
    · intro y0 y1 y2
      unfold laws_markIntS.l0
      repeat' first
      | (with_reducible exact ih0 _ _ _)
      | (with_reducible exact LeO.refl _)
      | (with_reducible exact LeO.none _)
      | (with_reducible refine LeO.ite ?_ ?_)
      | (with_reducible refine LeO.bind ?_ (fun _ => ?_))
      | exact ih0 _ _ _
      | exact LeO.none _
      | refine LeO.ite ?_ ?_
      | refine LeO.bind ?_ (fun _ => ?_)
theorem laws_markIntS.mono : ∀ a0 a1 k, LeO (laws_markIntS.f k a0 a1) (laws_markIntS.f (k + 1) a0 a1) := by
  intro a0 a1 k
  have ih0 := laws_markIntS.mono_l k
  unfold laws_markIntS.f
  repeat' first
      | (with_reducible exact ih0 _ _ _)
      | (with_reducible exact LeO.refl _)
      | (with_reducible exact LeO.none _)
      | (with_reducible refine LeO.ite ?_ ?_)
      | (with_reducible refine LeO.bind ?_ (fun _ => ?_))
      | exact ih0 _ _ _
      | exact LeO.none _
      | refine LeO.ite ?_ ?_
      | refine LeO.bind ?_ (fun _ => ?_)
set_option maxHeartbeats 8000000 in
set_option maxRecDepth 100000 in
theorem laws_markIntS.calls (k : Nat) (P0_ : Nat → Prop) (u9000_ : Value) (l0 : List Int) (a1 : Int) (r1 : Int) (r2 : List Int) (w0 w : World) (hB : Below w0.heap.size w0 w) (ho0 : Kd.R (Kd.int .i64) 3 w w0.heap.size P0_ u9000_ l0) (h : laws_markIntS.f k l0 a1 = some (r1, r2)) :
    Calls Try.prog 46 #[u9000_, .int .i64 a1] w fun e w' => e = .returned (.int .i64 r1) ∧ Kd.R (Kd.int .i64) 3 w' w0.heap.size (fun k_ => (P0_ k_ ∨ w.heap.size ≤ k_)) u9000_ r2 ∧ Below w0.heap.size w0 w' ∧ Kept w w' (fun k_ => P0_ k_) := by
  have HO0 := Aside0.mk (show Kd.R (Kd.int .i64) 3 w w0.heap.size (fun k_ => (P0_ k_ ∨ w.heap.size ≤ k_)) u9000_ l0 from Kd.R_mono ho0 (fun k_ hk => (.inl hk)))
  have HK := Aside0.mk (Kept.refl w (fun k_ => P0_ k_))
  have HW0 := Aside0.mk hB.size
  have HB := Aside0.mk hB
  clear hB
  have H : (laws_markIntS.l0 k l0 a1 0) = some (r1, r2) := h
  clear h
  have H' := Aside0.mk H
  clear H
  go_enter Try.func46, Try.ntmps46
  go_wp2
  go_loopg [1, 5] k (fun kq v1 v5 w' => ∃ (x0_1 : List Int) (x1_1 : Int) (x5_1 : Int), v1 = .int .i64 x1_1 ∧ v5 = .int .i64 x5_1 ∧ Aside0 (laws_markIntS.l0 kq x0_1 x1_1 x5_1 = some (r1, r2)) ∧ Aside0 (kq ≤ k) ∧ Aside0 (Kd.R (Kd.int .i64) 3 w' w0.heap.size (fun k_ => (P0_ k_ ∨ w.heap.size ≤ k_)) u9000_ x0_1) ∧ Aside0 (Kept w w' (fun k_ => P0_ k_)) ∧ Aside0 (Below w0.heap.size w0 w'))
  case atStart => exact ⟨(l0), (a1), (0), (by first | rfl | (simp; done) | (simp [*]; done)), (by first | rfl | (simp; done) | (simp [*]; done)), H', ⟨Nat.le_refl _⟩, ⟨by (with_reducible repeat (first | apply Kd.R_alloc | apply Kd.R_drewN | apply Kd.R_drew)); exact HO0.out⟩, ⟨by repeat (first | (with_reducible first | exact HK.out | apply Kept.alloc | apply Kept.drewN | apply Kept.drew) | exact HK.out)⟩, ⟨by repeat (first | (with_reducible first | exact HB.out | apply below_alloc | apply pw_below_drewN | apply below_drew1) | exact HB.out)⟩⟩
  case round =>
    clear H'
    try clear p2
    obtain ⟨x0_1, x1_1, x5_1, rfl, rfl, HA, HK1, HO_0, HK, HB⟩ := hrel
    cases gk with
    | zero => exact absurd HA.out (by simp [laws_markIntS.l0])
    | succ k1 =>
      have H := HA.out
      clear HA
      simp only [laws_markIntS.l0] at H
      by_cases c3 : x5_1 < (x0_1.length : Int)
      · rw [if_pos c3] at H
        have c3b0 : decide (x5_1 < (x0_1.length : Int)) = true := decide_eq_true c3
        clear c3
        by_cases c4 : 0 ≤ x5_1
        · rw [if_pos c4] at H
          have c4b0 : decide (0 ≤ x5_1) = true := decide_eq_true c4
          clear c4
          obtain ⟨y426, hy426⟩ : ∃ y_ : List Int, y_ = (x0_1.set (x5_1 : Int).toNat x1_1) := ⟨_, rfl⟩
          replace H : (laws_markIntS.l0 k1 y426 (wrap64 (x1_1 + 1)) (wrap64 (x5_1 + 1))) = some (r1, r2) := by first | (rw [hy426]; with_reducible exact H) | (have H2_ := (Option.bind_some _ _).symm.trans H; rw [hy426]; with_reducible exact H2_) | (have H2_ := (Option.bind_some _ _).symm.trans H; with_reducible exact H2_) | with_reducible exact H | (rw [hy426]; exact H) | exact H
          have Ny426 := Aside0.mk hy426
          clear hy426
          have H' := Aside0.mk H
          clear H
          obtain ⟨Ao6, co6, eo6⟩ := Kd.R_slice HO_0.out
          subst eo6
          have p5 : 0 ≤ (x5_1 : Int) := of_decide_eq_true (by first | (with_reducible assumption) | assumption)
          have q5 : (x5_1 : Int) < ((x0_1.length : Int) : Int) := of_decide_eq_true (by first | (with_reducible assumption) | assumption)
          obtain ⟨go5, co5, eo5, gb5, gl5, cl5, HG5⟩ := Kd.R_form HO_0.out (by omega)
          (first | cases eo5 | (injection eo5 with ea_ en_ ec_; (first | subst ea_ | (injection ea_ with ea_; subst ea_)); subst ec_; clear en_))
          have GB5 := Aside0.mk gb5
          have GG5 := Aside0.mk HG5
          clear gb5 gl5 HG5
          have HMgo5 := Aside0.mk (show (P0_ go5 ∨ w.heap.size ≤ go5) from (HO_0.out.1 _ rfl))
          obtain ⟨hx5_0, hf5_0⟩ := Kd.R_celln 0 HO_0.out (x5_1 : Int) p5 q5
          replace p5 := eq_true p5
          replace q5 := eq_true q5
          have HP7 := Kd.R_putg HO_0.out (x5_1 : Int) x1_1
          go_wp2_with (first | ((with_reducible refine gate_store (t := 3) (p := 15) rfl ?_); refine store_event (t := 3) (p := 15) (v := ?vo_w8) (w1 := (wr.setCell ⟨go5, (x5_1 : Int).toNat, none⟩ (.int .i64 x1_1))) ?hg ?ho ?hn ?hr ?_; (case ho => rfl); (case hg => rfl); (case hn => rfl); (case hr => first | (go_simp; done) | (go_simp; rfl)); intro w8 hw; have hg : wr.grownBy w8 (some go5) := (by rw [hw]; exact HP7.2); have hp_ : Kd.R (Kd.int .i64) 3 w8 w0.heap.size (fun k_ => (P0_ k_ ∨ w.heap.size ≤ k_)) (.slice (some ⟨go5, 0, none⟩) x0_1.length co6) y426 := (by rw [hw, Ny426.out]; exact HP7.1); clear HP7; have n0_ := Aside0.mk (hp_); have n1_ := Aside0.mk ((by rw [hw]; exact below_set (HB.out) GB5.out : Below w0.heap.size w0 w8)); have n2_ := Aside0.mk (Kept.of_grown (S := (fun k_ => P0_ k_)) hg (by repeat (first | (with_reducible first | exact HK.out | apply Kept.alloc | apply Kept.drewN | apply Kept.drew) | exact HK.out)) (fun k_ e_ => (HO_0.out.1 k_ e_))); clear HO_0; clear HB; clear HK; have HO_0 := n0_; have HB := n1_; have HK := n2_; clear n0_ n1_ n2_; clear hg hw hp_))
          go_roundg k1
          case measure => have := HK1.out; omega
          case rel => exact ⟨(y426), (wrap64 (x1_1 + 1)), (wrap64 (x5_1 + 1)), (by first | rfl | (simp; done) | (simp [*]; done)), (by first | rfl | (simp; done) | (simp [*]; done)), H', ⟨by have := HK1.out; omega⟩, ⟨by (with_reducible repeat (first | apply Kd.R_alloc | apply Kd.R_drewN | apply Kd.R_drew)); exact HO_0.out⟩, ⟨by repeat (first | (with_reducible first | exact HK.out | apply Kept.alloc | apply Kept.drewN | apply Kept.drew) | exact HK.out)⟩, ⟨by repeat (first | (with_reducible first | exact HB.out | apply below_alloc | apply pw_below_drewN | apply below_drew1) | exact HB.out)⟩⟩
        · rw [if_neg c4] at H
          exact absurd H (by simp)
      · rw [if_neg c3] at H
        have c3b0 : decide (x5_1 < (x0_1.length : Int)) = false := decide_eq_false c3
        clear c3
        simp only [Option.some.injEq, Prod.mk.injEq] at H
        obtain ⟨rfl, rfl⟩ := H
        obtain ⟨Ao9, co9, eo9⟩ := Kd.R_slice HO_0.out
        subst eo9
        go_wp2
        go_ret
        exact ⟨by first | rfl | (simp [errW_none, errW_some] <;> rfl) | (simp [*, errW_none, errW_some] <;> rfl), by (with_reducible repeat (first | apply Kd.R_alloc | apply Kd.R_drewN | apply Kd.R_drew)); exact HO_0.out, by repeat (first | (with_reducible first | exact HB.out | apply below_alloc | apply pw_below_drewN | apply below_drew1) | exact HB.out), by repeat (first | (with_reducible first | exact HK.out | apply Kept.alloc | apply Kept.drewN | apply Kept.drew) | exact HK.out)⟩

end Go.Proofs.Ytllnieknogficaa.K
namespace Go.Proofs.Ytllnieknogficaa.K
open Go.RowKit Go.Proofs.YtllnieknogficaaW.PrintWords Go.Proofs.YtllnieknogficaaW.PrintLast Go.Proofs.YtllnieknogficaaW.PrintMore
attribute [local go_sem] max2_int min2_int max_two min_two max_three min_three max_four min_four   -- for this text's walks alone
set_option linter.unusedVariables false
set_option linter.unusedSimpArgs false

/-! ### laws_markIntSS: function 39 -/
def laws_markIntSS.row (k : Int) (n : Nat) : List Int := (List.range n).map fun (i : Nat) => k + (i : Int)
def laws_markIntSS.rows : Int → List (List Int) → List (List Int)
  | _, [] => []
  | k, r :: t => laws_markIntSS.row k r.length :: laws_markIntSS.rows (k + (r.length : Int)) t
def laws_markIntSS.tot : List (List Int) → Nat
  | [] => 0
  | r :: t => r.length + laws_markIntSS.tot t
theorem laws_markIntSS.row_length (k : Int) (n : Nat) : (laws_markIntSS.row k n).length = n := by simp [laws_markIntSS.row]
/-- markIntS, from place i on. -/
theorem laws_markIntSS.marks (l : List Int) (a : Int) (h0 : 0 ≤ a) (hl : a + (l.length : Int) ≤ 4611686018427387904) : ∀ d k (i : Nat), i ≤ l.length → l.length - i = d → d < k →
    laws_markIntS.l0 k (laws_markIntSS.row a i ++ l.drop i) (a + (i : Int)) (i : Int) = some (a + (l.length : Int), laws_markIntSS.row a l.length) := by
  intro d
  induction d with
  | zero =>
    intro k i hi hd hk
    obtain ⟨k, rfl⟩ : ∃ m, k = m + 1 := ⟨k - 1, by omega⟩
    have : i = l.length := by omega
    subst this
    simp only [laws_markIntS.l0]
    rw [if_neg (by simp [laws_markIntSS.row_length])]
    simp
  | succ d ih =>
    intro k i hi hd hk
    obtain ⟨k, rfl⟩ : ∃ m, k = m + 1 := ⟨k - 1, by omega⟩
    have hlt : i < l.length := by omega
    simp only [laws_markIntS.l0]
    rw [if_pos (by simp [laws_markIntSS.row_length]; omega), if_pos (by omega)]
    have hw : wrap64 ((i : Int) + 1) = ((i + 1 : Nat) : Int) := by unfold wrap64; omega
    have hw2 : wrap64 (a + (i : Int) + 1) = a + ((i + 1 : Nat) : Int) := by unfold wrap64; omega
    have hs : (laws_markIntSS.row a i ++ l.drop i).set (i : Int).toNat (a + (i : Int)) = laws_markIntSS.row a (i + 1) ++ l.drop (i + 1) := by
      rw [Int.toNat_natCast, List.set_append_right _ _ (by rw [laws_markIntSS.row_length]; omega), laws_markIntSS.row_length, Nat.sub_self, List.drop_eq_getElem_cons hlt, List.set_cons_zero]
      unfold laws_markIntSS.row
      rw [List.range_succ, List.map_append, List.append_assoc]
      rfl
    rw [hw, hw2, hs]
    exact ih k (i + 1) (by omega) (by omega) (by omega)
theorem laws_markIntSS.mark (l : List Int) (a : Int) (h0 : 0 ≤ a) (hl : a + (l.length : Int) ≤ 4611686018427387904) :
    laws_markIntS.f (l.length + 1) l a = some (a + (l.length : Int), laws_markIntSS.row a l.length) := by
  have h := laws_markIntSS.marks l a h0 hl l.length (l.length + 1) 0 (by omega) (by omega) (by omega)
  simpa [laws_markIntS.f, laws_markIntSS.row] using h
theorem laws_markIntSS.tot_append (a b : List (List Int)) : laws_markIntSS.tot (a ++ b) = laws_markIntSS.tot a + laws_markIntSS.tot b := by
  induction a with
  | nil => simp [laws_markIntSS.tot]
  | cons r t ih => simp [laws_markIntSS.tot, ih]; omega
theorem laws_markIntSS.rows_append (a b : List (List Int)) : ∀ k, laws_markIntSS.rows k (a ++ b) = laws_markIntSS.rows k a ++ laws_markIntSS.rows (k + (laws_markIntSS.tot a : Int)) b := by
  induction a with
  | nil => intro k; simp [laws_markIntSS.rows, laws_markIntSS.tot]
  | cons r t ih =>
    intro k
    simp only [List.cons_append, laws_markIntSS.rows, laws_markIntSS.tot]
    rw [ih]
    congr 3
    push_cast
    omega
theorem laws_markIntSS.rows_length : ∀ (l : List (List Int)) k, (laws_markIntSS.rows k l).length = l.length
  | [], _ => rfl
  | _ :: t, _ => by simp [laws_markIntSS.rows, laws_markIntSS.rows_length t]
/-- What stands in memory behind i rounds. -/
def laws_markIntSS.upto (a : Int) (l : List (List Int)) (i : Nat) : List (List Int) := laws_markIntSS.rows a (l.take i) ++ l.drop i
theorem laws_markIntSS.upto_length (a : Int) (l : List (List Int)) (i : Nat) : (laws_markIntSS.upto a l i).length = l.length := by
  simp [laws_markIntSS.upto, laws_markIntSS.rows_length]; omega
theorem laws_markIntSS.upto_at (a : Int) (l : List (List Int)) (i : Nat) (h : i < l.length) : (laws_markIntSS.upto a l i).getD i [] = l[i] := by
  have hl : (laws_markIntSS.rows a (l.take i)).length = i := by rw [laws_markIntSS.rows_length, List.length_take]; omega
  rw [List.getD_eq_getElem?_getD, laws_markIntSS.upto, List.getElem?_append_right (by omega), hl, Nat.sub_self, List.getElem?_drop]
  simp [h]
theorem laws_markIntSS.upto_set (a : Int) (l : List (List Int)) (i : Nat) (h : i < l.length) : (laws_markIntSS.upto a l i).set i (laws_markIntSS.row (a + (laws_markIntSS.tot (l.take i) : Int)) l[i].length) = laws_markIntSS.upto a l (i + 1) := by
  have hl : (laws_markIntSS.rows a (l.take i)).length = i := by rw [laws_markIntSS.rows_length, List.length_take]; omega
  rw [laws_markIntSS.upto, List.set_append_right _ _ (by omega), hl, Nat.sub_self, List.drop_eq_getElem_cons h, List.set_cons_zero, laws_markIntSS.upto, List.take_succ_eq_append_getElem h, laws_markIntSS.rows_append, List.append_assoc]
  rfl
theorem laws_markIntSS.tot_take (l : List (List Int)) (i : Nat) (h : i < l.length) : laws_markIntSS.tot (l.take (i + 1)) = laws_markIntSS.tot (l.take i) + l[i].length := by
  rw [List.take_succ_eq_append_getElem h, laws_markIntSS.tot_append]; simp [laws_markIntSS.tot]
theorem laws_markIntSS.tot_le (l : List (List Int)) (i : Nat) : laws_markIntSS.tot (l.take i) ≤ laws_markIntSS.tot l := by
  have := laws_markIntSS.tot_append (l.take i) (l.drop i)
  rw [List.take_append_drop] at this
  omega
set_option maxHeartbeats 1000000 in
set_option maxRecDepth 100000 in
theorem laws_markIntSS.calls (P0_ : Nat → Prop) (u : Value) (l0 : List (List Int)) (a1 : Int) (w0 w : World) (h0 : 0 ≤ a1) (hk : a1 + (laws_markIntSS.tot l0 : Int) ≤ 4611686018427387904) (hB : Below w0.heap.size w0 w) (ho0 : Kd.S (Kd.slice 3 (Kd.int .i64)) 24 w w0.heap.size P0_ u l0) :
    Calls Try.prog 39 #[u, .int .i64 a1] w fun e w' => e = .returned (.int .i64 (a1 + (laws_markIntSS.tot l0 : Int))) ∧ Kd.S (Kd.slice 3 (Kd.int .i64)) 24 w' w0.heap.size P0_ u (laws_markIntSS.rows a1 l0) ∧ Below w0.heap.size w0 w' ∧ Kept w w' P0_ := by
  obtain ⟨A, c, rfl, hlc, hC⟩ := Kd.S_reads ho0
  have hmax := Kd.C_max hC
  clear hC
  have HO := Aside0.mk ho0
  have HB := Aside0.mk hB
  clear ho0 hB
  have HZ := Aside0.mk (show laws_markIntSS.upto a1 l0 0 = l0 from by simp [laws_markIntSS.upto, laws_markIntSS.rows])
  have HT := Aside0.mk (fun i => laws_markIntSS.tot_le l0 i)
  go_enter Try.func39, Try.ntmps39
  go_wp2
  go_loopg [1, 5] l0.length (fun gg s1 s5 wr => ∃ i : Nat, i ≤ l0.length ∧ l0.length - i ≤ gg ∧ s1 = .int .i64 (a1 + (laws_markIntSS.tot (l0.take i) : Int)) ∧ s5 = .int .i64 i ∧ Aside0 (Kd.S (Kd.slice 3 (Kd.int .i64)) 24 wr w0.heap.size P0_ (.slice A l0.length c) (laws_markIntSS.upto a1 l0 i)) ∧ Aside0 (Below w0.heap.size w0 wr) ∧ Aside0 (Kept w wr P0_))
  case atStart => exact ⟨0, Nat.zero_le _, by omega, by simp [laws_markIntSS.tot], rfl, ⟨by rw [HZ.out]; exact HO.out⟩, HB, ⟨Kept.refl _ _⟩⟩
  case round =>
    obtain ⟨i, hi, hg, rfl, rfl, HS, HBr, HKr⟩ := hrel
    by_cases hlt : i < l0.length
    · have hltz : (i : Int) < (l0.length : Int) := by omega
      have hz : (0 : Int) ≤ (i : Int) := by omega
      obtain ⟨g, cap, hv, hgb, hgl, cells, hgc⟩ := Kd.S_form HS.out (by rw [laws_markIntSS.upto_length]; omega)
      rw [laws_markIntSS.upto_length] at hv
      injection hv with hv1 hv2 hv3
      subst hv1
      subst hv3
      clear hv2 hgc
      obtain ⟨oki, cs, hcl, hM, hcc, hoki, hH⟩ := Kd.S_lend HS.out [] (i : Int) hz hltz
      obtain ⟨vi, rfl, hR⟩ := hM
      have hx := hcc 0 _ rfl
      rw [Int.toNat_natCast, laws_markIntSS.upto_at a1 l0 i hlt] at hR
      simp only [Int.toNat_natCast, show (Kd.slice 3 (Kd.int .i64)).sz = 1 from rfl, Nat.mul_one, Nat.add_zero] at hx
      have hUS := laws_markIntSS.upto_set a1 l0 i hlt
      have hTT := laws_markIntSS.tot_take l0 i hlt
      have hle := HT.out (i + 1)
      have hm := laws_markIntSS.mark l0[i] (a1 + (laws_markIntSS.tot (l0.take i) : Int)) (by omega) (by omega)
      have HUS := Aside0.mk hUS
      have HTT := Aside0.mk hTT
      have HM := Aside0.mk hm
      have HR := Aside0.mk hR
      have HOI := Aside0.mk hoki
      have HH := Aside0.mk hH
      clear hUS hTT hm hle hR hcc hcl hoki hH
      obtain ⟨Ai, ci, e1⟩ := Kd.R_slice HR.out
      subst e1
      go_wp2_with (go_at_call 46; refine (laws_markIntS.calls _ oki _ l0[i] _ _ _ w0 _ HBr.out HR.out HM.out).mono ?_; rintro e w' ⟨rfl, hr', hb', hk'⟩)
      have HR' := Aside0.mk hr'
      have HB' := Aside0.mk hb'
      have HK' := Aside0.mk hk'
      clear hr' hb' hk'
      go_roundg (l0.length - (i + 1))
      case measure => omega
      case rel =>
        refine ⟨i + 1, by omega, by omega, ?_, by go_num, ⟨?_⟩, HB', ⟨?_⟩⟩
        · rw [HTT.out]; push_cast; first | rfl | (congr 1; omega)
        · rw [← HUS.out]
          have h2 := Kd.H_back (Kd.H_kept HH.out HK'.out (fun k _ hn => hn)) (x' := laws_markIntSS.row (a1 + (laws_markIntSS.tot (l0.take i) : Int)) l0[i].length) (okp := oki) ⟨_, rfl, Kd.R_reok rfl HR'.out (fun k e_ => HR.out.1 k e_)⟩ (fun _ h => h)
          rw [Int.toNat_natCast] at h2
          exact h2
        · exact Kept.then_ HKr.out HK'.out (fun k hk => .inl (HOI.out k hk).1)
    · have hltz : ¬ (i : Int) < (l0.length : Int) := by omega
      have hk2 : i = l0.length := by omega
      subst hk2
      have HF := Aside0.mk (show laws_markIntSS.upto a1 l0 l0.length = laws_markIntSS.rows a1 l0 from by simp [laws_markIntSS.upto])
      go_wp2
      go_ret
      exact ⟨rfl, by rw [← HF.out]; exact HS.out, HBr.out, HKr.out⟩

end Go.Proofs.Ytllnieknogficaa.K
namespace Go.Proofs.Ytllnieknogficaa.K
open Go.RowKit Go.Proofs.YtllnieknogficaaW.PrintWords Go.Proofs.YtllnieknogficaaW.PrintLast Go.Proofs.YtllnieknogficaaW.PrintMore
attribute [local go_sem] max2_int min2_int max_two min_two max_three min_three max_four min_four   -- for this text's walks alone
set_option linter.unusedVariables false
set_option linter.unusedSimpArgs false

/-! ### laws_szIntS: function 124 -/
def laws_szIntS.f (l0 : List Int) (a1 : Int) : Option (Int) := if (wrap64 (a1 - (l0.length : Int))) < 0 then (some (-1)) else (some (wrap64 (a1 - (l0.length : Int))))
set_option maxHeartbeats 8000000 in
set_option maxRecDepth 100000 in
theorem laws_szIntS.calls (A0 : Option Addr) (c0 : Nat) (l0 : List Int) (a1 : Int) (r : Int) (w : World) (hr0 : Kd.C (Kd.int .i64) w A0 l0.length l0) (hc0 : l0.length ≤ c0) (h : laws_szIntS.f l0 a1 = some r) :
    Calls Try.prog 124 #[.slice A0 l0.length c0, .int .i64 a1] w fun e w' => e = .returned (.int .i64 r) ∧ Drawn0 w w' := by
  have HR0 := Aside0.mk hr0
  have HC0 := Aside0.mk hc0
  clear hr0 hc0
  have H : (if (wrap64 (a1 - (l0.length : Int))) < 0 then (some (-1)) else (some (wrap64 (a1 - (l0.length : Int))))) = some r := h
  clear h
  by_cases c3 : (wrap64 (a1 - (l0.length : Int))) < 0
  · rw [if_pos c3] at H
    have c3b0 : decide ((wrap64 (a1 - (l0.length : Int))) < 0) = true := decide_eq_true c3
    clear c3
    obtain rfl := Option.some.inj H
    go_enter Try.func124, Try.ntmps124
    go_wp2
    go_ret
    exact ⟨by first | rfl | (simp; done) | (simp [*]; done), by repeat (first | exact Drawn0.refl _ | apply Drawn0.step)⟩
  · rw [if_neg c3] at H
    have c3b0 : decide ((wrap64 (a1 - (l0.length : Int))) < 0) = false := decide_eq_false c3
    clear c3
    obtain rfl := Option.some.inj H
    go_enter Try.func124, Try.ntmps124
    go_wp2
    go_ret
    exact ⟨by first | rfl | (simp; done) | (simp [*]; done), by repeat (first | exact Drawn0.refl _ | apply Drawn0.step)⟩

end Go.Proofs.Ytllnieknogficaa.K
namespace Go.Proofs.Ytllnieknogficaa.K
open Go.RowKit Go.Proofs.YtllnieknogficaaW.PrintWords Go.Proofs.YtllnieknogficaaW.PrintLast Go.Proofs.YtllnieknogficaaW.PrintMore
attribute [local go_sem] max2_int min2_int max_two min_two max_three min_three max_four min_four   -- for this text's walks alone
set_option linter.unusedVariables false
set_option linter.unusedSimpArgs false

/-! ### laws_szIntSS: function 34 -/
def laws_szIntSS.l0 : Nat → List (List Int) → Int → Int → Option (Int)
  | 0, _, _, _ => none
  | k + 1, x0, x1, x5 => if x5 < (x0.length : Int) then (if 0 ≤ x5 then ((laws_szIntS.f (rd_L2 x0 x5) x1).bind fun t377 => (if t377 < 0 then (some (-1)) else (laws_szIntSS.l0 k x0 t377 (wrap64 (x5 + 1))))) else (none)) else (some x1)
def laws_szIntSS.f (k : Nat) (l0 : List (List Int)) (a1 : Int) : Option (Int) := if (wrap64 (a1 - (l0.length : Int))) < 0 then (some (-1)) else (laws_szIntSS.l0 k l0 (wrap64 (a1 - (l0.length : Int))) 0)
theorem laws_szIntSS.mono_l : ∀ k, (∀ y0 y1 y2, LeO (laws_szIntSS.l0 k y0 y1 y2) (laws_szIntSS.l0 (k + 1) y0 y1 y2))
  | 0 => fun _ _ _ r h => by simp [laws_szIntSS.l0] at h
  | k + 1 => by
    have ih0 := laws_szIntSS.mono_l k
    · intro y0 y1 y2
      unfold laws_szIntSS.l0
      repeat' first
      | (with_reducible exact ih0 _ _ _)
      | (with_reducible exact LeO.refl _)
      | (with_reducible exact LeO.none _)
      | (with_reducible refine LeO.ite ?_ ?_)
      | (with_reducible refine LeO.bind ?_ (fun _ => ?_))
      | exact ih0 _ _ _
      | exact LeO.none _
      | refine LeO.ite ?_ ?_
      | refine LeO.bind ?_ (fun _ => ?_)
theorem laws_szIntSS.mono : ∀ a0 a1 k, LeO (laws_szIntSS.f k a0 a1) (laws_szIntSS.f (k + 1) a0 a1) := by
  intro a0 a1 k
  have ih0 := laws_szIntSS.mono_l k
  unfold laws_szIntSS.f
  repeat' first
      | (with_reducible exact ih0 _ _ _)
      | (with_reducible exact LeO.refl _)
      | (with_reducible exact LeO.none _)
      | (with_reducible refine LeO.ite ?_ ?_)
      | (with_reducible refine LeO.bind ?_ (fun _ => ?_))
      | exact ih0 _ _ _
      | exact LeO.none _
      | refine LeO.ite ?_ ?_
      | refine LeO.bind ?_ (fun _ => ?_)
set_option maxHeartbeats 8000000 in
set_option maxRecDepth 100000 in
theorem laws_szIntSS.calls (k : Nat) (A0 : Option Addr) (c0 : Nat) (l0 : List (List Int)) (a1 : Int) (r : Int) (w : World) (hr0 : Kd.C (Kd.slice 3 (Kd.int .i64)) w A0 l0.length l0) (hc0 : l0.length ≤ c0) (h : laws_szIntSS.f k l0 a1 = some r) :
    Calls Try.prog 34 #[.slice A0 l0.length c0, .int .i64 a1] w fun e w' => e = .returned (.int .i64 r) ∧ Drawn0 w w' := by
  have HR0 := Aside0.mk hr0
  have HC0 := Aside0.mk hc0
  clear hr0 hc0
  have H : (if (wrap64 (a1 - (l0.length : Int))) < 0 then (some (-1)) else (laws_szIntSS.l0 k l0 (wrap64 (a1 - (l0.length : Int))) 0)) = some r := h
  clear h
  by_cases c3 : (wrap64 (a1 - (l0.length : Int))) < 0
  · rw [if_pos c3] at H
    have c3b0 : decide ((wrap64 (a1 - (l0.length : Int))) < 0) = true := decide_eq_true c3
    clear c3
    obtain rfl := Option.some.inj H
    go_enter Try.func34, Try.ntmps34
    go_wp2
    go_ret
    exact ⟨by first | rfl | (simp; done) | (simp [*]; done), by repeat (first | exact Drawn0.refl _ | apply Drawn0.step)⟩
  · rw [if_neg c3] at H
    have c3b0 : decide ((wrap64 (a1 - (l0.length : Int))) < 0) = false := decide_eq_false c3
    clear c3
    have H' := Aside0.mk H
    clear H
    go_enter Try.func34, Try.ntmps34
    go_wp2
    go_loopg [1, 5] k (fun kq v1 v5 w' => ∃ (x1_1 : Int) (x5_1 : Int), v1 = .int .i64 x1_1 ∧ v5 = .int .i64 x5_1 ∧ Aside0 (laws_szIntSS.l0 kq l0 x1_1 x5_1 = some r) ∧ Aside0 (kq ≤ k) ∧ Drawn0 w w')
    case atStart => exact ⟨(wrap64 (a1 - (l0.length : Int))), (0), (by first | rfl | (simp; done) | (simp [*]; done)), (by first | rfl | (simp; done) | (simp [*]; done)), H', ⟨Nat.le_refl _⟩, by repeat (first | exact Drawn0.refl _ | apply Drawn0.step)⟩
    case round =>
      clear H'
      try clear p2
      try clear c3
      try clear c3b0
      obtain ⟨x1_1, x5_1, rfl, rfl, HA, HK1, ⟨m1, rfl⟩⟩ := hrel
      cases gk with
      | zero => exact absurd HA.out (by simp [laws_szIntSS.l0])
      | succ k1 =>
        have H := HA.out
        clear HA
        simp only [laws_szIntSS.l0] at H
        by_cases c4 : x5_1 < (l0.length : Int)
        · rw [if_pos c4] at H
          have c4b0 : decide (x5_1 < (l0.length : Int)) = true := decide_eq_true c4
          clear c4
          by_cases c5 : 0 ≤ x5_1
          · rw [if_pos c5] at H
            have c5b0 : decide (0 ≤ x5_1) = true := decide_eq_true c5
            clear c5
            replace H := Option.bind_eq_some_iff.mp H
            obtain ⟨t377, A60, H⟩ := H
            replace H : (if t377 < 0 then (some (-1)) else (laws_szIntSS.l0 k1 l0 t377 (wrap64 (x5_1 + 1)))) = some r := H
            have A6 := Aside0.mk A60
            clear A60
            by_cases c7 : t377 < 0
            · rw [if_pos c7] at H
              have c7b0 : decide (t377 < 0) = true := decide_eq_true c7
              clear c7
              obtain rfl := Option.some.inj H
              have p376 : 0 ≤ (x5_1 : Int) := of_decide_eq_true (by first | (with_reducible assumption) | assumption)
              have q376 : x5_1 < (l0.length : Int) := of_decide_eq_true (by first | (with_reducible assumption) | assumption)
              obtain ⟨ad376, A376_0, c376_0, e376, hx376_0, hl376_0, hi376_0⟩ := at_L2 HR0.out x5_1 p376 q376
              cases e376
              have HR376_0 := Aside0.mk hi376_0
              have HC376_0 := Aside0.mk hl376_0
              clear hi376_0 hl376_0
              replace p376 := eq_true p376
              replace q376 := eq_true q376
              go_wp2_with (first | ((with_reducible refine gate_callee (f := 124) rfl ?_); refine goesL_ (some 23) rfl rfl Try.func124 (by kernel_rfl) rfl #[.slice A376_0 (rd_L2 l0 x5_1).length c376_0, .int .i64 x1_1] rfl (by (try simp only [List.map_toArray, List.map_cons, List.map_nil]); first | done | rfl | (simp only [List.length_drop, List.length_take]; rfl)) ?_; (with_reducible refine (laws_szIntS.calls _ _ (rd_L2 l0 x5_1) x1_1 t377 _ ?side1 ?side2 A6.out).mono ?_); (case side1 => repeat (first | exact HR376_0.out | (with_reducible refine Kd.C_alloc ?_ _) | (with_reducible refine Kd.C_drewN ?_ _) | (with_reducible refine Kd.C_drew ?_))); (case side2 => exact HC376_0.out); rintro e w' ⟨rfl, ⟨nd, rfl⟩⟩; refine ⟨_, rfl, ?_⟩))
              go_ret
              exact ⟨by first | rfl | (simp; done) | (simp [*]; done), by repeat (first | exact Drawn0.refl _ | apply Drawn0.step)⟩
            · rw [if_neg c7] at H
              have c7b0 : decide (t377 < 0) = false := decide_eq_false c7
              clear c7
              have H' := Aside0.mk H
              clear H
              have p376 : 0 ≤ (x5_1 : Int) := of_decide_eq_true (by first | (with_reducible assumption) | assumption)
              have q376 : x5_1 < (l0.length : Int) := of_decide_eq_true (by first | (with_reducible assumption) | assumption)
              obtain ⟨ad376, A376_0, c376_0, e376, hx376_0, hl376_0, hi376_0⟩ := at_L2 HR0.out x5_1 p376 q376
              cases e376
              have HR376_0 := Aside0.mk hi376_0
              have HC376_0 := Aside0.mk hl376_0
              clear hi376_0 hl376_0
              replace p376 := eq_true p376
              replace q376 := eq_true q376
              go_wp2_with (first | ((with_reducible refine gate_callee (f := 124) rfl ?_); refine goesL_ (some 23) rfl rfl Try.func124 (by kernel_rfl) rfl #[.slice A376_0 (rd_L2 l0 x5_1).length c376_0, .int .i64 x1_1] rfl (by (try simp only [List.map_toArray, List.map_cons, List.map_nil]); first | done | rfl | (simp only [List.length_drop, List.length_take]; rfl)) ?_; (with_reducible refine (laws_szIntS.calls _ _ (rd_L2 l0 x5_1) x1_1 t377 _ ?side1 ?side2 A6.out).mono ?_); (case side1 => repeat (first | exact HR376_0.out | (with_reducible refine Kd.C_alloc ?_ _) | (with_reducible refine Kd.C_drewN ?_ _) | (with_reducible refine Kd.C_drew ?_))); (case side2 => exact HC376_0.out); rintro e w' ⟨rfl, ⟨nd, rfl⟩⟩; refine ⟨_, rfl, ?_⟩))
              go_roundg k1
              case measure => have := HK1.out; omega
              case rel => exact ⟨(t377), (wrap64 (x5_1 + 1)), (by first | rfl | (simp; done) | (simp [*]; done)), (by first | rfl | (simp; done) | (simp [*]; done)), H', ⟨by have := HK1.out; omega⟩, by repeat (first | exact Drawn0.refl _ | apply Drawn0.step)⟩
          · rw [if_neg c5] at H
            exact absurd H (by simp)
        · rw [if_neg c4] at H
          have c4b0 : decide (x5_1 < (l0.length : Int)) = false := decide_eq_false c4
          clear c4
          obtain rfl := Option.some.inj H
          go_wp2
          go_ret
          exact ⟨by first | rfl | (simp; done) | (simp [*]; done), by repeat (first | exact Drawn0.refl _ | apply Drawn0.step)⟩

end Go.Proofs.Ytllnieknogficaa.K
namespace Go.Proofs.Ytllnieknogficaa.K
open Go.RowKit Go.Proofs.YtllnieknogficaaW.PrintWords Go.Proofs.YtllnieknogficaaW.PrintLast Go.Proofs.YtllnieknogficaaW.PrintMore
attribute [local go_sem] max2_int min2_int max_two min_two max_three min_three max_four min_four   -- for this text's walks alone
set_option linter.unusedVariables false
set_option linter.unusedSimpArgs false
/-! ### copies -/
theorem toIntS_l0 (l : List Int) (hl : l.length ≤ 4611686018427387904) : ∀ d (i : Nat) (x : List Int), i ≤ l.length → l.length - i = d → x.length = l.length → x.take i = l.take i → Ev (fun k => laws_toIntS.l0 k l x (i : Int)) l := by
  intro d
  induction d with
  | zero =>
    intro i x hi hd hx ht
    have : i = l.length := by omega
    subst this
    refine ev_succ ?_
    simp only [laws_toIntS.l0, if_neg (Int.lt_irrefl _)]
    refine ev_now _ _ ?_
    rw [List.take_of_length_le (by omega), List.take_length] at ht
    exact ht
  | succ d ih =>
    intro i x hi hd hx ht
    have hlt : i < l.length := by omega
    have h1 : (i : Int) < (l.length : Int) := by omega
    have h2 : (0 : Int) ≤ (i : Int) := by omega
    have h3 : (i : Int) < (x.length : Int) := by omega
    refine ev_succ ?_
    simp only [laws_toIntS.l0, if_pos h1, if_pos h2, if_pos h3, wrap64_nat_succ (show i < 9223372036854775807 by omega), Int.toNat_natCast, rd_nat l i hlt]
    refine ih (i + 1) _ (by omega) (by omega) (by simpa using hx) ?_
    rw [List.take_succ_eq_append_getElem (by simpa [hx] using hlt), List.take_succ_eq_append_getElem hlt, List.take_set_of_le (Nat.le_refl _), ht, List.getElem_set_self]
theorem toIntS_ev (l : List Int) (hl : l.length ≤ 1099511627776) : Ev (fun k => laws_toIntS.f k l) l := by
  unfold laws_toIntS.f
  have h1 : (0 : Int) ≤ (l.length : Int) := by omega
  have h2 : l.length ≤ 35184372088832 := by omega
  simp only [if_pos h1, if_pos h2, Int.toNat_natCast]
  exact toIntS_l0 l (by omega) l.length 0 (List.replicate l.length 0) (by omega) (by omega) (by simp) (by simp)
theorem toIntSS_l0 (l : List (List Int)) (hl : l.length ≤ 4611686018427387904) (hr : ∀ r ∈ l, r.length ≤ 1099511627776) : ∀ d (i : Nat) (x : List (List Int)), i ≤ l.length → l.length - i = d → x.length = l.length → x.take i = l.take i → Ev (fun k => laws_toIntSS.l0 k l x (i : Int)) l := by
  intro d
  induction d with
  | zero =>
    intro i x hi hd hx ht
    have : i = l.length := by omega
    subst this
    refine ev_succ ?_
    simp only [laws_toIntSS.l0, if_neg (Int.lt_irrefl _)]
    refine ev_now _ _ ?_
    rw [List.take_of_length_le (by omega), List.take_length] at ht
    exact ht
  | succ d ih =>
    intro i x hi hd hx ht
    have hlt : i < l.length := by omega
    have h1 : (i : Int) < (l.length : Int) := by omega
    have h2 : (0 : Int) ≤ (i : Int) := by omega
    have h3 : (i : Int) < (x.length : Int) := by omega
    refine ev_succ ?_
    simp only [laws_toIntSS.l0, if_pos h1, if_pos h2, if_pos h3, wrap64_nat_succ (show i < 9223372036854775807 by omega), Int.toNat_natCast, rdL_nat l i hlt]
    refine Ev.bind (toIntS_ev l[i] (hr _ (List.getElem_mem hlt))) ?_
    refine ih (i + 1) _ (by omega) (by omega) (by simpa using hx) ?_
    rw [List.take_succ_eq_append_getElem (by simpa [hx] using hlt), List.take_succ_eq_append_getElem hlt, List.take_set_of_le (Nat.le_refl _), ht, List.getElem_set_self]
theorem toIntSS_ev (l : List (List Int)) (hl : l.length ≤ 1099511627776) (hr : ∀ r ∈ l, r.length ≤ 1099511627776) : Ev (fun k => laws_toIntSS.f k l) l := by
  unfold laws_toIntSS.f
  have h1 : (0 : Int) ≤ (l.length : Int) := by omega
  have h2 : l.length ≤ 11728124029610 := by omega
  simp only [if_pos h1, if_pos h2, Int.toNat_natCast]
  exact toIntSS_l0 l (by omega) hr l.length 0 (List.replicate l.length []) (by omega) (by omega) (by simp) (by simp)
/-! ### equality -/
theorem eqIntS_l0 (l : List Int) (hl : l.length ≤ 4611686018427387904) : ∀ d (i : Nat), i ≤ l.length → l.length - i = d → Ev (fun k => laws_eqIntS.l0 k l l (i : Int)) true := by
  intro d
  induction d with
  | zero =>
    intro i hi hd
    have : i = l.length := by omega
    subst this
    refine ev_succ ?_
    simp only [laws_eqIntS.l0, if_neg (Int.lt_irrefl _)]
    exact ev_now _ _ rfl
  | succ d ih =>
    intro i hi hd
    have h1 : (i : Int) < (l.length : Int) := by omega
    have h2 : (0 : Int) ≤ (i : Int) := by omega
    refine ev_succ ?_
    simp only [laws_eqIntS.l0, if_pos h1, if_pos h2, if_true, wrap64_nat_succ (show i < 9223372036854775807 by omega)]
    exact ih (i + 1) (by omega) (by omega)
theorem eqIntS_ev (l : List Int) (hl : l.length ≤ 1099511627776) : Ev (fun k => laws_eqIntS.f k l l) true := by
  unfold laws_eqIntS.f
  simp only [if_true]
  exact eqIntS_l0 l (by omega) l.length 0 (by omega) (by omega)
theorem eqIntSS_l0 (l : List (List Int)) (hl : l.length ≤ 4611686018427387904) (hr : ∀ r ∈ l, r.length ≤ 1099511627776) : ∀ d (i : Nat), i ≤ l.length → l.length - i = d → Ev (fun k => laws_eqIntSS.l0 k l l (i : Int)) true := by
  intro d
  induction d with
  | zero =>
    intro i hi hd
    have : i = l.length := by omega
    subst this
    refine ev_succ ?_
    simp only [laws_eqIntSS.l0, if_neg (Int.lt_irrefl _)]
    exact ev_now _ _ rfl
  | succ d ih =>
    intro i hi hd
    have hlt : i < l.length := by omega
    have h1 : (i : Int) < (l.length : Int) := by omega
    have h2 : (0 : Int) ≤ (i : Int) := by omega
    refine ev_succ ?_
    simp only [laws_eqIntSS.l0, if_pos h1, if_pos h2, rdL_nat l i hlt, wrap64_nat_succ (show i < 9223372036854775807 by omega)]
    refine Ev.bind (eqIntS_ev l[i] (hr _ (List.getElem_mem hlt))) ?_
    simp only [if_true]
    exact ih (i + 1) (by omega) (by omega)
theorem eqIntSS_ev (l : List (List Int)) (hl : l.length ≤ 1099511627776) (hr : ∀ r ∈ l, r.length ≤ 1099511627776) : Ev (fun k => laws_eqIntSS.f k l l) true := by
  unfold laws_eqIntSS.f
  simp only [if_true]
  exact eqIntSS_l0 l (by omega) hr l.length 0 (by omega) (by omega)
/-! ### marks that are held -/
theorem heldIntS_l0 (a : Int) (n : Nat) (h0 : 0 ≤ a) (hl : a + (n : Int) ≤ 4611686018427387904) : ∀ d (i : Nat), i ≤ n → n - i = d → Ev (fun k => laws_heldIntS.l0 k (laws_markIntSS.row a n) (a + (i : Int)) (i : Int)) (a + (n : Int)) := by
  intro d
  induction d with
  | zero =>
    intro i hi hd
    have : i = n := by omega
    subst this
    refine ev_succ ?_
    simp only [laws_heldIntS.l0, laws_markIntSS.row_length, if_neg (Int.lt_irrefl _)]
    exact ev_now _ _ rfl
  | succ d ih =>
    intro i hi hd
    have h1 : (i : Int) < ((laws_markIntSS.row a n).length : Int) := by rw [laws_markIntSS.row_length]; omega
    have h2 : (0 : Int) ≤ (i : Int) := by omega
    have h3 : rd (laws_markIntSS.row a n) (i : Int) = a + (i : Int) := by rw [rd_nat _ i (by rw [laws_markIntSS.row_length]; omega)]; simp [laws_markIntSS.row]
    have h4 : wrap64 (a + (i : Int) + 1) = a + ((i + 1 : Nat) : Int) := by unfold wrap64; omega
    refine ev_succ ?_
    simp only [laws_heldIntS.l0, if_pos h1, if_pos h2, if_pos h3, h4, wrap64_nat_succ (show i < 9223372036854775807 by omega)]
    exact ih (i + 1) (by omega) (by omega)
theorem heldIntS_ev (a : Int) (n : Nat) (h0 : 0 ≤ a) (hl : a + (n : Int) ≤ 4611686018427387904) : Ev (fun k => laws_heldIntS.f k (laws_markIntSS.row a n) a) (a + (n : Int)) := by
  unfold laws_heldIntS.f
  have := heldIntS_l0 a n h0 hl n 0 (by omega) (by omega)
  simpa using this
theorem rows_at (a : Int) (l : List (List Int)) (i : Nat) (h : i < l.length) : (laws_markIntSS.rows a l)[i]'(by rw [laws_markIntSS.rows_length]; exact h) = laws_markIntSS.row (a + (laws_markIntSS.tot (l.take i) : Int)) l[i].length := by
  induction l generalizing a i with
  | nil => simp at h
  | cons r t ih =>
    cases i with
    | zero => simp [laws_markIntSS.rows, laws_markIntSS.tot]
    | succ i =>
      have h' : i < t.length := by simpa using h
      have := ih (a + (r.length : Int)) i h'
      simp only [laws_markIntSS.rows, List.getElem_cons_succ, List.take_succ_cons, laws_markIntSS.tot]
      rw [this]
      congr 1
      push_cast
      omega
theorem heldIntSS_l0 (a : Int) (l : List (List Int)) (h0 : 0 ≤ a) (hl : a + (laws_markIntSS.tot l : Int) ≤ 4611686018427387904) (hn : l.length ≤ 4611686018427387904) : ∀ d (i : Nat), i ≤ l.length → l.length - i = d →
    Ev (fun k => laws_heldIntSS.l0 k (laws_markIntSS.rows a l) (a + (laws_markIntSS.tot (l.take i) : Int)) (i : Int)) (a + (laws_markIntSS.tot l : Int)) := by
  intro d
  induction d with
  | zero =>
    intro i hi hd
    have : i = l.length := by omega
    subst this
    refine ev_succ ?_
    simp only [laws_heldIntSS.l0, laws_markIntSS.rows_length, if_neg (Int.lt_irrefl _), List.take_length]
    exact ev_now _ _ rfl
  | succ d ih =>
    intro i hi hd
    have hlt : i < l.length := by omega
    have h1 : (i : Int) < ((laws_markIntSS.rows a l).length : Int) := by rw [laws_markIntSS.rows_length]; omega
    have h2 : (0 : Int) ≤ (i : Int) := by omega
    have ht := laws_markIntSS.tot_take l i hlt
    have hle := laws_markIntSS.tot_le l (i + 1)
    have h3 : rd_L2 (laws_markIntSS.rows a l) (i : Int) = laws_markIntSS.row (a + (laws_markIntSS.tot (l.take i) : Int)) l[i].length := by rw [rdL_nat _ i (by rw [laws_markIntSS.rows_length]; exact hlt), rows_at a l i hlt]
    refine ev_succ ?_
    simp only [laws_heldIntSS.l0, if_pos h1, if_pos h2, h3, wrap64_nat_succ (show i < 9223372036854775807 by omega)]
    refine Ev.bind (heldIntS_ev _ _ (by omega) (by omega)) ?_
    have h5 : ¬ (a + (laws_markIntSS.tot (l.take i) : Int) + (l[i].length : Int) < 0) := by omega
    have h6 : a + (laws_markIntSS.tot (l.take i) : Int) + (l[i].length : Int) = a + (laws_markIntSS.tot (l.take (i + 1)) : Int) := by rw [ht]; push_cast; omega
    simp only [if_neg h5]
    rw [h6]
    exact ih (i + 1) (by omega) (by omega)
theorem heldIntSS_ev (a : Int) (l : List (List Int)) (h0 : 0 ≤ a) (hl : a + (laws_markIntSS.tot l : Int) ≤ 4611686018427387904) (hn : l.length ≤ 4611686018427387904) : Ev (fun k => laws_heldIntSS.f k (laws_markIntSS.rows a l) a) (a + (laws_markIntSS.tot l : Int)) := by
  unfold laws_heldIntSS.f
  have := heldIntSS_l0 a l h0 hl hn l.length 0 (by omega) (by omega)
  simpa [laws_markIntSS.tot] using this
/-! ### sizes -/
theorem szIntS_eq (l : List Int) (a : Int) (ha : -1 ≤ a) (ha2 : a ≤ 1048576) (hl : l.length ≤ 9223372036854775807) : laws_szIntS.f l a = some (if a - (l.length : Int) < 0 then -1 else a - (l.length : Int)) := by
  unfold laws_szIntS.f
  rw [wrap64_id (by omega) (by omega)]
  split <;> rfl
/-- It comes to something; if that is not negative, there is little. -/
theorem szIntSS_l0 (l : List (List Int)) (hl : l.length ≤ 9223372036854775807) (hr : ∀ r ∈ l, r.length ≤ 9223372036854775807) : ∀ d (i : Nat) (a : Int), i ≤ l.length → l.length - i = d → 0 ≤ a → a ≤ 1048576 →
    ∃ r, Ev (fun k => laws_szIntSS.l0 k l a (i : Int)) r ∧ (0 ≤ r → (laws_markIntSS.tot (l.drop i) : Int) ≤ a) ∧ (¬ 0 ≤ r → r = -1) := by
  intro d
  induction d with
  | zero =>
    intro i a hi hd h0 ha
    have : i = l.length := by omega
    subst this
    refine ⟨a, ev_succ ?_, fun _ => ?_, fun h => absurd h0 h⟩
    · simp only [laws_szIntSS.l0, if_neg (Int.lt_irrefl _)]
      exact ev_now _ _ rfl
    · rw [List.drop_length]; simpa [laws_markIntSS.tot] using h0
  | succ d ih =>
    intro i a hi hd h0 ha
    have hlt : i < l.length := by omega
    have h1 : (i : Int) < (l.length : Int) := by omega
    have h2 : (0 : Int) ≤ (i : Int) := by omega
    have hs := szIntS_eq l[i] a (by omega) ha (hr _ (List.getElem_mem hlt))
    by_cases hc : a - (l[i].length : Int) < 0
    · refine ⟨-1, ev_succ ?_, fun h => by omega, fun _ => rfl⟩
      simp only [laws_szIntSS.l0, if_pos h1, if_pos h2, rdL_nat l i hlt, hs, if_pos hc, Option.bind_some, if_pos (show (-1 : Int) < 0 by omega)]
      exact ev_now _ _ rfl
    · obtain ⟨r, hE, hp, hq⟩ := ih (i + 1) (a - (l[i].length : Int)) (by omega) (by omega) (by omega) (by omega)
      refine ⟨r, ev_succ ?_, fun h => ?_, hq⟩
      · simp only [laws_szIntSS.l0, if_pos h1, if_pos h2, rdL_nat l i hlt, hs, if_neg hc, Option.bind_some, wrap64_nat_succ (show i < 9223372036854775807 by omega)]
        exact hE
      · rw [List.drop_eq_getElem_cons hlt]
        have := hp h
        simp only [laws_markIntSS.tot]
        push_cast
        omega
theorem szIntSS_ev (l : List (List Int)) (a : Int) (h0 : 0 ≤ a) (ha : a ≤ 1048576) (hl : l.length ≤ 9223372036854775807) (hr : ∀ r ∈ l, r.length ≤ 9223372036854775807) :
    ∃ r, Ev (fun k => laws_szIntSS.f k l a) r ∧ (0 ≤ r → (laws_markIntSS.tot l : Int) + (l.length : Int) ≤ a) ∧ (¬ 0 ≤ r → r = -1) := by
  unfold laws_szIntSS.f
  rw [wrap64_id (by omega) (by omega)]
  by_cases hc : a - (l.length : Int) < 0
  · exact ⟨-1, by simp only [if_pos hc]; exact ev_now _ _ rfl, fun h => by omega, fun _ => rfl⟩
  · obtain ⟨r, hE, hp, hq⟩ := szIntSS_l0 l hl hr l.length 0 (a - (l.length : Int)) (by omega) (by omega) (by omega) (by omega)
    refine ⟨r, ?_, fun h => ?_, hq⟩
    · simp only [if_neg hc]; exact hE
    · have := hp h
      rw [List.drop_zero] at this
      omega
theorem row_le_tot (l : List (List Int)) (r : List Int) (h : r ∈ l) : r.length ≤ laws_markIntSS.tot l := by
  induction l with
  | nil => simp at h
  | cons x t ih =>
    rcases List.mem_cons.1 h with h | h
    · subst h; simp [laws_markIntSS.tot]
    · have := ih h; simp [laws_markIntSS.tot]; omega
/-- heldIntSS over what was marked, its length as the walk has it. -/
theorem held_at (k : Nat) (A : Option Addr) (c : Nat) (R : List (List Int)) (q : Int) (w : World) (h : laws_heldIntSS.f k (laws_markIntSS.rows 1 R) 1 = some q) (hc : R.length ≤ c) (hr : Kd.C (Kd.slice 3 (Kd.int .i64)) w A (laws_markIntSS.rows 1 R).length (laws_markIntSS.rows 1 R)) :
    Calls Try.prog 40 #[.slice A R.length c, .int .i64 1] w fun e w' => e = .returned (.int .i64 q) ∧ Drawn0 w w' := by
  have := laws_heldIntSS.calls k A c (laws_markIntSS.rows 1 R) 1 q w hr (by rw [laws_markIntSS.rows_length]; exact hc) h
  rwa [laws_markIntSS.rows_length] at this
end Go.Proofs.Ytllnieknogficaa.K
namespace Go.Proofs.Ytllnieknogficaa.K
open Go.RowKit Go.Proofs.YtllnieknogficaaW.PrintWords Go.Proofs.YtllnieknogficaaW.PrintLast Go.Proofs.YtllnieknogficaaW.PrintMore
attribute [local go_sem] max2_int min2_int max_two min_two max_three min_three max_four min_four   -- for this text's walks alone
set_option linter.unusedVariables false
set_option linter.unusedSimpArgs false
/-- Rows of rows between two marks of the heap. -/
structure OwnSS (w W : World) (lo hi : Nat) (v : Value) (R : List (List Int)) : Prop where
  s : Kd.S (Kd.slice 3 (Kd.int .i64)) 24 W w.heap.size (fun k => lo ≤ k ∧ k < hi) v R
  b : w.heap.size ≤ lo
  t : hi ≤ W.heap.size
/-- A row between two marks of the heap. -/
structure OwnR {α : Type} (d : Kd α) (e : Nat) (w W : World) (lo hi : Nat) (v : Value) (R : List α) : Prop where
  s : Kd.R d e W w.heap.size (fun k => lo ≤ k ∧ k < hi) v R
  b : w.heap.size ≤ lo
  t : hi ≤ W.heap.size
theorem OwnSS.new {w w1 w2 : World} {v : Value} {R : List (List Int)} (ho : Kd.S (Kd.slice 3 (Kd.int .i64)) 24 w2 w1.heap.size (fun _ => True) v R) (HB : Below w.heap.size w w1) : OwnSS w w2 w1.heap.size w2.heap.size v R :=
  ⟨Kd.S_lower (Kd.S_mono (Kd.S_bound ho) (fun _ hk => ⟨hk.2.1, hk.2.2.1⟩)) HB.size, HB.size, Nat.le_refl _⟩
theorem OwnSS.step {w W W' : World} {lo hi : Nat} {v : Value} {R : List (List Int)} (h : OwnSS w W lo hi v R) (hb : Below W.heap.size W W') : OwnSS w W' lo hi v R := ⟨Kd.S_below h.s hb, h.b, Nat.le_trans h.t hb.size⟩
theorem OwnSS.kept {w W W' : World} {lo hi : Nat} {P : Nat → Prop} {v : Value} {R : List (List Int)} (h : OwnSS w W lo hi v R) (hk : Kept W W' P) (hP : ∀ k, lo ≤ k → k < hi → ¬ P k) : OwnSS w W' lo hi v R :=
  ⟨Kd.S_kept h.s hk (fun k hk => hP k hk.1 hk.2), h.b, Nat.le_trans h.t hk.1⟩
theorem OwnSS.reads {w W : World} {lo hi : Nat} {v : Value} {R : List (List Int)} (h : OwnSS w W lo hi v R) : ∃ A c, v = .slice A R.length c ∧ R.length ≤ c := by
  obtain ⟨A, c, e, hl, _⟩ := Kd.S_reads h.s
  exact ⟨A, c, e, hl⟩
theorem OwnSS.c {w W : World} {lo hi n c : Nat} {A : Option Addr} {R : List (List Int)} (h : OwnSS w W lo hi (.slice A n c) R) : Kd.C (Kd.slice 3 (Kd.int .i64)) W A R.length R := (Kd.S_reads' h.s).2.2
theorem OwnSS.done {w W W' : World} {lo hi : Nat} {v : Value} {R R' : List (List Int)} (h : OwnSS w W lo hi v R) (hs : Kd.S (Kd.slice 3 (Kd.int .i64)) 24 W' w.heap.size (fun k => lo ≤ k ∧ k < hi) v R') (hk : W.heap.size ≤ W'.heap.size) : OwnSS w W' lo hi v R' := ⟨hs, h.b, Nat.le_trans h.t hk⟩
section
variable {α : Type} {d : Kd α} {e : Nat}
theorem OwnR.new {w w1 w2 : World} {v : Value} {R : List α} (ho : Kd.R d e w2 w1.heap.size (fun _ => True) v R) (HB : Below w.heap.size w w1) : OwnR d e w w2 w1.heap.size w2.heap.size v R :=
  ⟨Kd.R_lower (Kd.R_mono (Kd.R_bound ho) (fun _ hk => ⟨hk.2.1, hk.2.2.1⟩)) HB.size, HB.size, Nat.le_refl _⟩
theorem OwnR.step {w W W' : World} {lo hi : Nat} {v : Value} {R : List α} (h : OwnR d e w W lo hi v R) (hb : Below W.heap.size W W') : OwnR d e w W' lo hi v R := ⟨Kd.R_below h.s hb, h.b, Nat.le_trans h.t hb.size⟩
theorem OwnR.kept {w W W' : World} {lo hi : Nat} {P : Nat → Prop} {v : Value} {R : List α} (h : OwnR d e w W lo hi v R) (hk : Kept W W' P) (hP : ∀ k, lo ≤ k → k < hi → ¬ P k) : OwnR d e w W' lo hi v R :=
  ⟨Kd.R_kept h.s hk (fun k hk => hP k hk.1 hk.2), h.b, Nat.le_trans h.t hk.1⟩
theorem OwnR.reads {w W : World} {lo hi : Nat} {v : Value} {R : List α} (h : OwnR d e w W lo hi v R) : ∃ A c, v = .slice A R.length c ∧ R.length ≤ c := by
  obtain ⟨A, c, e, hl, _⟩ := Kd.R_reads h.s
  exact ⟨A, c, e, hl⟩
theorem OwnR.c {w W : World} {lo hi n c : Nat} {A : Option Addr} {R : List α} (h : OwnR d e w W lo hi (.slice A n c) R) : Kd.C d W A R.length R := (Kd.R_reads' h.s).2.2
theorem OwnR.done {w W W' : World} {lo hi : Nat} {v : Value} {R R' : List α} (hE : d.E = []) (h : OwnR d e w W lo hi v R) {ok : Nat → Prop} (hs : Kd.R d e W' w.heap.size ok v R') (hk : W.heap.size ≤ W'.heap.size) : OwnR d e w W' lo hi v R' :=
  ⟨Kd.R_reok hE hs (fun k he => h.s.1 k he), h.b, Nat.le_trans h.t hk⟩
end
end Go.Proofs.Ytllnieknogficaa.K
namespace Go.Proofs.Ytllnieknogficaa.K
open Go.RowKit Go.Proofs.YtllnieknogficaaW.PrintWords Go.Proofs.YtllnieknogficaaW.PrintLast Go.Proofs.YtllnieknogficaaW.PrintMore
attribute [local go_sem] max2_int min2_int max_two min_two max_three min_three max_four min_four   -- for this text's walks alone
set_option linter.unusedVariables false
set_option linter.unusedSimpArgs false

/-! ### impl_within: function 173 -/
def impl_within.f (a0 : Int) (a1 : Int) (a2 : Int) : Option (Bool) := if a0 ≥ a1 then (some (decide (a0 ≤ a2))) else (some false)
set_option maxHeartbeats 8000000 in
set_option maxRecDepth 100000 in
theorem impl_within.calls (a0 : Int) (a1 : Int) (a2 : Int) (r : Bool) (w : World) (h : impl_within.f a0 a1 a2 = some r) :
    Calls Try.prog 173 #[.int .i64 a0, .int .i64 a1, .int .i64 a2] w fun e w' => e = .returned (.bool r) ∧ Drawn0 w w' := by
  have H : (if a0 ≥ a1 then (some (decide (a0 ≤ a2))) else (some false)) = some r := h
  clear h
  by_cases c4 : a0 ≥ a1
  · rw [if_pos c4] at H
    have c4b0 : decide (a1 ≤ a0) = true := decide_eq_true c4
    clear c4
    obtain rfl := Option.some.inj H
    go_enter Try.func173, Try.ntmps173
    go_wp2
    go_ret
    exact ⟨by first | rfl | (simp; done) | (simp [*]; done), by repeat (first | exact Drawn0.refl _ | apply Drawn0.step)⟩
  · rw [if_neg c4] at H
    have c4b0 : decide (a1 ≤ a0) = false := decide_eq_false c4
    clear c4
    obtain rfl := Option.some.inj H
    go_enter Try.func173, Try.ntmps173
    go_wp2
    go_ret
    exact ⟨by first | rfl | (simp; done) | (simp [*]; done), by repeat (first | exact Drawn0.refl _ | apply Drawn0.step)⟩

end Go.Proofs.Ytllnieknogficaa.K
namespace Go.Proofs.Ytllnieknogficaa.K
open Go.RowKit Go.Proofs.YtllnieknogficaaW.PrintWords Go.Proofs.YtllnieknogficaaW.PrintLast Go.Proofs.YtllnieknogficaaW.PrintMore
attribute [local go_sem] max2_int min2_int max_two min_two max_three min_three max_four min_four   -- for this text's walks alone
set_option linter.unusedVariables false
set_option linter.unusedSimpArgs false

/-! ### impl_allWithin: function 174 -/
def impl_allWithin.l0 : Nat → Int → Int → List Int → Int → Int → Option (Bool)
  | 0, _, _, _, _, _ => none
  | k + 1, x1, x2, x9, x10, x11 => if x11 < x10 then (if 0 ≤ x11 then (if x11 < (x9.length : Int) then ((impl_within.f (rd x9 x11) x1 x2).bind fun t208 => (if t208 = true then (impl_allWithin.l0 k x1 x2 x9 x10 (wrap64 (x11 + 1))) else (some false))) else (none)) else (none)) else (some true)
def impl_allWithin.f (k : Nat) (l0 : List Int) (a1 : Int) (a2 : Int) : Option (Bool) := impl_allWithin.l0 k a1 a2 l0 (l0.length : Int) 0
theorem impl_allWithin.mono_l : ∀ k, (∀ y0 y1 y2 y3 y4, LeO (impl_allWithin.l0 k y0 y1 y2 y3 y4) (impl_allWithin.l0 (k + 1) y0 y1 y2 y3 y4))
  | 0 => fun _ _ _ _ _ r h => by simp [impl_allWithin.l0] at h
  | k + 1 => by
    have ih0 := impl_allWithin.mono_l k
    · intro y0 y1 y2 y3 y4
      unfold impl_allWithin.l0
      repeat' first
      | (with_reducible exact ih0 _ _ _ _ _)
      | (with_reducible exact LeO.refl _)
      | (with_reducible exact LeO.none _)
      | (with_reducible refine LeO.ite ?_ ?_)
      | (with_reducible refine LeO.bind ?_ (fun _ => ?_))
      | exact ih0 _ _ _ _ _
      | exact LeO.none _
      | refine LeO.ite ?_ ?_
      | refine LeO.bind ?_ (fun _ => ?_)
theorem impl_allWithin.mono : ∀ a0 a1 a2 k, LeO (impl_allWithin.f k a0 a1 a2) (impl_allWithin.f (k + 1) a0 a1 a2) := by
  intro a0 a1 a2 k
  have ih0 := impl_allWithin.mono_l k
  unfold impl_allWithin.f
  repeat' first
      | (with_reducible exact ih0 _ _ _ _ _)
      | (with_reducible exact LeO.refl _)
      | (with_reducible exact LeO.none _)
      | (with_reducible refine LeO.ite ?_ ?_)
      | (with_reducible refine LeO.bind ?_ (fun _ => ?_))
      | exact ih0 _ _ _ _ _
      | exact LeO.none _
      | refine LeO.ite ?_ ?_
      | refine LeO.bind ?_ (fun _ => ?_)
set_option maxHeartbeats 8000000 in
set_option maxRecDepth 100000 in
theorem impl_allWithin.calls (k : Nat) (A0 : Option Addr) (c0 : Nat) (l0 : List Int) (a1 : Int) (a2 : Int) (r : Bool) (w : World) (hr0 : Kd.C (Kd.int .i64) w A0 l0.length l0) (hc0 : l0.length ≤ c0) (h : impl_allWithin.f k l0 a1 a2 = some r) :
    Calls Try.prog 174 #[.slice A0 l0.length c0, .int .i64 a1, .int .i64 a2] w fun e w' => e = .returned (.bool r) ∧ Drawn0 w w' := by
  have HR0 := Aside0.mk hr0
  have HC0 := Aside0.mk hc0
  clear hr0 hc0
  have H : (impl_allWithin.l0 k a1 a2 l0 (l0.length : Int) 0) = some r := h
  clear h
  have H' := Aside0.mk H
  clear H
  go_enter Try.func174, Try.ntmps174
  go_wp2
  go_loopg [11] k (fun kq v11 w' => ∃ (x11_1 : Int), v11 = .int .i64 x11_1 ∧ Aside0 (impl_allWithin.l0 kq a1 a2 l0 (l0.length : Int) x11_1 = some r) ∧ Aside0 (kq ≤ k) ∧ Drawn0 w w')
  case atStart => exact ⟨(0), (by first | rfl | (simp; done) | (simp [*]; done)), H', ⟨Nat.le_refl _⟩, by repeat (first | exact Drawn0.refl _ | apply Drawn0.step)⟩
  case round =>
    clear H'
    try clear c1
    try clear p2
    obtain ⟨x11_1, rfl, HA, HK1, ⟨m1, rfl⟩⟩ := hrel
    cases gk with
    | zero => exact absurd HA.out (by simp [impl_allWithin.l0])
    | succ k1 =>
      have H := HA.out
      clear HA
      simp only [impl_allWithin.l0] at H
      by_cases c4 : x11_1 < (l0.length : Int)
      · rw [if_pos c4] at H
        have c4b0 : decide (x11_1 < (l0.length : Int)) = true := decide_eq_true c4
        clear c4
        by_cases c5 : 0 ≤ x11_1
        · rw [if_pos c5] at H
          have c5b0 : decide (0 ≤ x11_1) = true := decide_eq_true c5
          clear c5
          by_cases c6 : x11_1 < (l0.length : Int)
          · rw [if_pos c6] at H
            have c6b0 : decide (x11_1 < (l0.length : Int)) = true := decide_eq_true c6
            clear c6
            replace H := Option.bind_eq_some_iff.mp H
            obtain ⟨t208, A70, H⟩ := H
            replace H : (if t208 = true then (impl_allWithin.l0 k1 a1 a2 l0 (l0.length : Int) (wrap64 (x11_1 + 1))) else (some false)) = some r := H
            have A7 := Aside0.mk A70
            clear A70
            by_cases c8 : t208 = true
            · subst c8
              have H1 : (impl_allWithin.l0 k1 a1 a2 l0 (l0.length : Int) (wrap64 (x11_1 + 1))) = some r := by rw [if_pos rfl] at H; exact H
              clear H
              have H := H1
              clear H1
              have H' := Aside0.mk H
              clear H
              have p207 : 0 ≤ (x11_1 : Int) := of_decide_eq_true (by first | (with_reducible assumption) | assumption)
              have q207 : x11_1 < (l0.length : Int) := of_decide_eq_true (by first | (with_reducible assumption) | assumption)
              obtain ⟨ad207, e207, hx207_0⟩ := Kd.at_int HR0.out x11_1 p207 q207
              cases e207
              replace p207 := eq_true p207
              replace q207 := eq_true q207
              go_wp2_with (first | ((with_reducible refine gate_callee (f := 173) rfl ?_); refine goesL_ (some 18) rfl rfl Try.func173 (by kernel_rfl) rfl #[.int .i64 (rd l0 x11_1), .int .i64 a1, .int .i64 a2] rfl (by (try simp only [List.map_toArray, List.map_cons, List.map_nil]); first | done | rfl | (simp only [List.length_drop, List.length_take]; rfl)) ?_; (with_reducible refine (impl_within.calls (rd l0 x11_1) a1 a2 true _ A7.out).mono ?_); rintro e w' ⟨rfl, ⟨nd, rfl⟩⟩; refine ⟨_, rfl, ?_⟩))
              go_roundg k1
              case measure => have := HK1.out; omega
              case rel => exact ⟨(wrap64 (x11_1 + 1)), (by first | rfl | (simp; done) | (simp [*]; done)), H', ⟨by have := HK1.out; omega⟩, by repeat (first | exact Drawn0.refl _ | apply Drawn0.step)⟩
            · replace c8 := Bool.eq_false_iff.mpr c8
              subst c8
              have H1 : (some false) = some r := by rw [if_neg (show ¬ (false = true) by decide)] at H; exact H
              clear H
              have H := H1
              clear H1
              obtain rfl := Option.some.inj H
              have p207 : 0 ≤ (x11_1 : Int) := of_decide_eq_true (by first | (with_reducible assumption) | assumption)
              have q207 : x11_1 < (l0.length : Int) := of_decide_eq_true (by first | (with_reducible assumption) | assumption)
              obtain ⟨ad207, e207, hx207_0⟩ := Kd.at_int HR0.out x11_1 p207 q207
              cases e207
              replace p207 := eq_true p207
              replace q207 := eq_true q207
              go_wp2_with (first | ((with_reducible refine gate_callee (f := 173) rfl ?_); refine goesL_ (some 18) rfl rfl Try.func173 (by kernel_rfl) rfl #[.int .i64 (rd l0 x11_1), .int .i64 a1, .int .i64 a2] rfl (by (try simp only [List.map_toArray, List.map_cons, List.map_nil]); first | done | rfl | (simp only [List.length_drop, List.length_take]; rfl)) ?_; (with_reducible refine (impl_within.calls (rd l0 x11_1) a1 a2 false _ A7.out).mono ?_); rintro e w' ⟨rfl, ⟨nd, rfl⟩⟩; refine ⟨_, rfl, ?_⟩))
              go_ret
              exact ⟨by first | rfl | (simp; done) | (simp [*]; done), by repeat (first | exact Drawn0.refl _ | apply Drawn0.step)⟩
          · rw [if_neg c6] at H
            exact absurd H (by simp)
        · rw [if_neg c5] at H
          exact absurd H (by simp)
      · rw [if_neg c4] at H
        have c4b0 : decide (x11_1 < (l0.length : Int)) = false := decide_eq_false c4
        clear c4
        obtain rfl := Option.some.inj H
        go_wp2
        go_ret
        exact ⟨by first | rfl | (simp; done) | (simp [*]; done), by repeat (first | exact Drawn0.refl _ | apply Drawn0.step)⟩

end Go.Proofs.Ytllnieknogficaa.K
namespace Go.Proofs.Ytllnieknogficaa.K
open Go.RowKit Go.Proofs.YtllnieknogficaaW.PrintWords Go.Proofs.YtllnieknogficaaW.PrintLast Go.Proofs.YtllnieknogficaaW.PrintMore
attribute [local go_sem] max2_int min2_int max_two min_two max_three min_three max_four min_four   -- for this text's walks alone
set_option linter.unusedVariables false
set_option linter.unusedSimpArgs false

/-! ### impl_isPlan: function 118 -/
def impl_isPlan.p (n : Nat) (r : List Int) : Bool := decide (r.length = n) && r.all fun x => decide (0 ≤ x) && decide (x ≤ 60)
def impl_isPlan.f (l0 : List (List Int)) : Option Bool := some (decide (1 ≤ l0.length) && decide (l0.length ≤ 8) && l0.all (impl_isPlan.p l0.length))
/-- All numbers of a list lie between two others: what the printed loop comes to. -/
theorem impl_isPlan.all (l : List Int) (a b : Int) (hl : l.length ≤ 9223372036854775807) : ∀ d k (i : Nat), i ≤ l.length → l.length - i = d → d < k →
    impl_allWithin.l0 k a b l (l.length : Int) (i : Int) = some ((l.drop i).all fun x => decide (a ≤ x) && decide (x ≤ b)) := by
  intro d
  induction d with
  | zero =>
    intro k i hi hd hk
    obtain ⟨k, rfl⟩ : ∃ m, k = m + 1 := ⟨k - 1, by omega⟩
    have : i = l.length := by omega
    subst this
    simp only [impl_allWithin.l0]
    rw [if_neg (by omega)]
    simp
  | succ d ih =>
    intro k i hi hd hk
    obtain ⟨k, rfl⟩ : ∃ m, k = m + 1 := ⟨k - 1, by omega⟩
    have hlt : i < l.length := by omega
    simp only [impl_allWithin.l0]
    rw [if_pos (by omega), if_pos (by omega), if_pos (by omega)]
    have hw : wrap64 ((i : Int) + 1) = ((i + 1 : Nat) : Int) := by unfold wrap64; omega
    have hr : rd l (i : Int) = l[i] := by unfold rd; simp [hlt]
    rw [hw, ih k (i + 1) (by omega) (by omega) (by omega), hr, List.drop_eq_getElem_cons hlt, List.all_cons]
    unfold impl_within.f
    by_cases h1 : l[i] ≥ a
    · rw [if_pos h1]
      by_cases h2 : l[i] ≤ b
      · simp only [decide_eq_true h2, Option.bind_some, if_true, decide_eq_true (show a ≤ l[i] from h1), Bool.and_self, Bool.true_and]
      · simp only [decide_eq_false h2, Option.bind_some, Bool.and_false, Bool.false_and]; rfl
    · rw [if_neg h1]
      simp only [decide_eq_false (show ¬ a ≤ l[i] from h1), Option.bind_some, Bool.false_and]; rfl
theorem impl_isPlan.allf (l : List Int) (a b : Int) (hl : l.length ≤ 9223372036854775807) : impl_allWithin.f (l.length + 1) l a b = some (l.all fun x => decide (a ≤ x) && decide (x ≤ b)) := by
  have h := impl_isPlan.all l a b hl l.length (l.length + 1) 0 (by omega) (by omega) (by omega)
  simpa [impl_allWithin.f] using h
set_option maxHeartbeats 400000 in
set_option maxRecDepth 100000 in
/-- The closure: it refuses a row. -/
theorem impl_isPlan.closure (A : Option Addr) (c : Nat) (l : List Int) (B n cm : Nat) (Am : Option Addr) (w : World) (hr : Kd.C (Kd.int .i64) w A l.length l) (hc : l.length ≤ c) (hl : l.length ≤ 9223372036854775807) (hm : w.cell? ⟨B, 0, none⟩ = some (.slice Am n cm)) :
    Calls Try.prog 205 #[.slice A l.length c, .pointer (some ⟨B, 0, none⟩)] w fun e w' => e = .returned (.bool (!impl_isPlan.p n l)) ∧ Drawn0 w w' := by
  by_cases hn : l.length = n
  · have hn1 : (l.length == n) = true := by simpa using hn
    have hn2 : ((l.length : Int) != (n : Int)) = false := by simp [hn]
    have hp : impl_isPlan.p n l = l.all fun x => decide (0 ≤ x) && decide (x ≤ 60) := by simp [impl_isPlan.p, hn]
    rw [hp]
    have hf := impl_isPlan.allf l 0 60 hl
    clear hp hn
    have HF := Aside0.mk hf
    clear hf
    go_enter Try.func205, Try.ntmps205
    go_wp2_with (go_at_call 174; refine (impl_allWithin.calls _ _ _ l 0 60 _ _ hr hc HF.out).mono ?_; rintro e w' ⟨rfl, ⟨nd, rfl⟩⟩)
    go_ret
    exact ⟨rfl, by repeat (first | exact Drawn0.refl _ | apply Drawn0.step)⟩
  · have hn2 : ((l.length : Int) != (n : Int)) = true := by simp; omega
    have hp : impl_isPlan.p n l = false := by simp [impl_isPlan.p, hn]
    rw [hp]
    clear hp
    go_enter Try.func205, Try.ntmps205
    go_wp2
    go_ret
    exact ⟨rfl, by repeat (first | exact Drawn0.refl _ | apply Drawn0.step)⟩
set_option maxHeartbeats 400000 in
set_option maxRecDepth 100000 in
/-- slices.IndexFunc over rows, at a predicate that may lay blocks of its own. -/
theorem impl_isPlan.index (pr : List Int → Bool) (g : Nat) (lb : Array Value) (eg : ∀ args w, (callFunc g args).run Try.prog w = .ok (.enter g args) w) (A : Option Addr) (c : Nat) (l0 : List (List Int)) (w : World)
    (hr : Kd.C (Kd.slice 3 (Kd.int .i64)) w A l0.length l0)
    (hp : ∀ (W : World) (A' : Option Addr) (c' : Nat) (l : List Int), Below w.heap.size w W → Kd.C (Kd.int .i64) W A' l.length l → l.length ≤ c' → l ∈ l0 → Calls Try.prog g (#[.slice A' l.length c'] ++ lb) W fun e w' => e = .returned (.bool (pr l)) ∧ Below W.heap.size W w') :
    Calls Try.prog 224 #[.slice A l0.length c, .func (.func g) #[] lb] w fun e w' => ∃ r : Int, e = .returned (.int .i64 r) ∧ (decide (r ≥ 0) = l0.any pr) ∧ Below w.heap.size w w' := by
  have hmax := Kd.C_max hr
  have HR := Aside0.mk hr
  have HP := Aside0.mk hp
  clear hr hp
  go_enter Try.func224, Try.ntmps224
  go_wp2
  go_loopg [5, 8] l0.length (fun gg _ s8 wr => ∃ kk : Nat, kk ≤ l0.length ∧ l0.length - kk ≤ gg ∧ s8 = .int .i64 kk ∧ Aside0 (Below w.heap.size w wr) ∧ Aside0 ((l0.take kk).any pr = false))
  case atStart => exact ⟨0, Nat.zero_le _, by omega, rfl, ⟨Below.refl _ w⟩, ⟨by simp⟩⟩
  case round =>
    obtain ⟨kk, hkk, hg, rfl, BW, TA⟩ := hrel
    by_cases hlt : kk < l0.length
    · have hltz : (kk : Int) < (l0.length : Int) := by omega
      have hz : (0 : Int) ≤ (kk : Int) := by omega
      obtain ⟨ad, A1, c1, e1, hx, hl1, hi1⟩ := at_L2 HR.out (kk : Int) hz hltz
      cases e1
      have hrd : rd_L2 l0 (kk : Int) = l0[kk] := by unfold rd_L2; simp [hlt]
      have hx2 := (BW.out.cell (World.block_lt_of_cell? w _ hx)).trans hx
      have hi2 := Kd.C_below hi1 BW.out
      rw [hrd, Int.toNat_natCast] at hx2
      rw [hrd] at hi2 hl1
      have hcall := HP.out wr A1 c1 l0[kk] BW.out hi2 hl1 (List.getElem_mem hlt)
      have hsnoc : (l0.take (kk + 1)).any pr = ((l0.take kk).any pr || pr l0[kk]) := by rw [List.take_succ_eq_append_getElem hlt, List.any_append]; simp
      have SN := Aside0.mk hsnoc
      clear hx hi1 hrd hsnoc
      generalize hy : l0[kk] = y at hcall hx2 hi2 hl1 SN
      have MY := Aside0.mk (show y ∈ l0 from hy ▸ List.getElem_mem hlt)
      clear hy hi2
      cases hq : pr y with
      | true =>
        rw [hq] at hcall
        have hq2 := Aside0.mk hq
        clear hq
        go_wp2_with (go_at_fn g; refine hcall.mono ?_; rintro e w' ⟨rfl, hb'⟩)
        go_ret
        refine ⟨_, rfl, ?_, below_step BW.out hb'⟩
        rw [List.any_eq_true.2 ⟨y, MY.out, hq2.out⟩]
        simp
      | false =>
        rw [hq] at hcall
        have hq2 := Aside0.mk hq
        clear hq
        go_wp2_with (go_at_fn g; refine hcall.mono ?_; rintro e w' ⟨rfl, hb'⟩)
        have HB' := Aside0.mk hb'
        clear hb'
        go_roundg (l0.length - (kk + 1))
        case measure => omega
        case rel => exact ⟨kk + 1, by omega, by omega, by go_num, ⟨below_step BW.out HB'.out⟩, ⟨by rw [SN.out, TA.out, hq2.out]; rfl⟩⟩
    · have hltz : ¬ (kk : Int) < (l0.length : Int) := by omega
      have hk2 : kk = l0.length := by omega
      subst hk2
      have hfin : l0.any pr = false := by have := TA.out; rwa [List.take_length] at this
      have HF := Aside0.mk hfin
      clear hfin
      go_wp2
      go_ret
      exact ⟨_, rfl, by rw [HF.out]; rfl, BW.out⟩
set_option maxHeartbeats 400000 in
theorem impl_isPlan.contains (pr : List Int → Bool) (g : Nat) (lb : Array Value) (eg : ∀ args w, (callFunc g args).run Try.prog w = .ok (.enter g args) w) (A : Option Addr) (c : Nat) (l0 : List (List Int)) (w : World)
    (hr : Kd.C (Kd.slice 3 (Kd.int .i64)) w A l0.length l0)
    (hp : ∀ (W : World) (A' : Option Addr) (c' : Nat) (l : List Int), Below w.heap.size w W → Kd.C (Kd.int .i64) W A' l.length l → l.length ≤ c' → l ∈ l0 → Calls Try.prog g (#[.slice A' l.length c'] ++ lb) W fun e w' => e = .returned (.bool (pr l)) ∧ Below W.heap.size W w') :
    Calls Try.prog 204 #[.slice A l0.length c, .func (.func g) #[] lb] w fun e w' => e = .returned (.bool (l0.any pr)) ∧ Below w.heap.size w w' := by
  have hi := impl_isPlan.index pr g lb eg A c l0 w hr hp
  clear hr hp
  go_enter Try.func204, Try.ntmps204
  go_wp2_with (go_at_call 224; refine hi.mono ?_; rintro e w' ⟨r, rfl, hr, hb⟩)
  have HR := Aside0.mk hr
  clear hr
  go_ret
  exact ⟨by rw [← HR.out]; rfl, hb⟩
set_option maxHeartbeats 400000 in
set_option maxRecDepth 100000 in
theorem impl_isPlan.calls (A0 : Option Addr) (c0 : Nat) (l0 : List (List Int)) (r : Bool) (w : World) (hr0 : Kd.C (Kd.slice 3 (Kd.int .i64)) w A0 l0.length l0) (hc0 : l0.length ≤ c0) (h : impl_isPlan.f l0 = some r) :
    Calls Try.prog 118 #[.slice A0 l0.length c0] w fun e w' => e = .returned (.bool r) ∧ Below w.heap.size w w' := by
  obtain rfl := Option.some.inj h
  clear h
  have hmf : ∀ (fn : Fn) (first cap : Array Value) (w : World), (Instr.makeFunc fn first cap).run Try.prog w = .ok (.func fn first cap) w := fun _ _ _ _ => rfl
  have HR := Aside0.mk hr0
  have HC := Aside0.mk hc0
  clear hr0 hc0
  by_cases h8 : l0.length ≤ 8
  · by_cases h1 : 1 ≤ l0.length
    · have hw : impl_within.f (l0.length : Int) 1 8 = some true := by unfold impl_within.f; rw [if_pos (by omega), decide_eq_true (by omega)]
      have HW := Aside0.mk hw
      have hany : l0.any (fun l => !impl_isPlan.p l0.length l) = !(l0.all (impl_isPlan.p l0.length)) := by rw [List.not_all_eq_any_not]
      have HA := Aside0.mk hany
      have hcell : (w.alloc (.cells #[.slice A0 l0.length c0] 37)).cell? ⟨w.heap.size, 0, none⟩ = some (.slice A0 l0.length c0) := by rw [World.cell?_alloc_at _ _ _ _ rfl]; rfl
      have hlt : w.heap.size < (w.alloc (.cells #[.slice A0 l0.length c0] 37)).heap.size := by simp
      have hcon := fun (n : Nat) => impl_isPlan.contains (fun l => !impl_isPlan.p l0.length l) 205 #[.pointer (some ⟨w.heap.size, 0, none⟩)] (enters_of Try.func205 (by kernel_rfl) rfl) A0 c0 l0 ((w.alloc (.cells #[.slice A0 l0.length c0] 37)).drewN n) (Kd.C_drewN (Kd.C_alloc HR.out _) n)
        (fun W A' c' l hb hl hc hm => by
          have hmx := Kd.C_max hl
          refine (impl_isPlan.closure A' c' l w.heap.size l0.length c0 A0 W hl hc ?_ ?_).mono ?_
          · exact hmx
          · exact (hb.cell (p := ⟨w.heap.size, 0, none⟩) hlt).trans hcell
          · rintro e w' ⟨rfl, hd⟩
            exact ⟨rfl, hd.below⟩)
      have HCON := Aside0.mk hcon
      clear hcon hw hany hcell hlt
      have hd1 : decide (1 ≤ l0.length) = true := decide_eq_true h1
      have hd8 : decide (l0.length ≤ 8) = true := decide_eq_true h8
      rw [hd1, hd8, Bool.true_and, Bool.true_and]
      clear hd1 hd8
      go_enter Try.func118, Try.ntmps118
      go_wp2_with (first | (go_at_call 173; refine (impl_within.calls _ _ _ _ _ HW.out).mono ?_; rintro e w' ⟨rfl, ⟨nd, rfl⟩⟩) | (go_at_call 204; refine (HCON.out _).mono ?_; rintro e w' ⟨rfl, hb⟩))
      go_ret
      exact ⟨by show Ending.returned (Value.bool (!l0.any fun l => !impl_isPlan.p l0.length l)) = _; rw [HA.out, Bool.not_not], below_step (pw_below_drewN (below_alloc (Below.refl _ _) _) _) hb⟩
    · have hw : impl_within.f (l0.length : Int) 1 8 = some false := by unfold impl_within.f; rw [if_neg (by omega)]
      have HW := Aside0.mk hw
      clear hw
      have hd1 : decide (1 ≤ l0.length) = false := decide_eq_false h1
      rw [hd1, Bool.false_and, Bool.false_and]
      clear hd1
      go_enter Try.func118, Try.ntmps118
      go_wp2_with (go_at_call 173; refine (impl_within.calls _ _ _ _ _ HW.out).mono ?_; rintro e w' ⟨rfl, ⟨nd, rfl⟩⟩)
      go_ret
      exact ⟨rfl, pw_below_drewN (below_alloc (Below.refl _ _) _) _⟩
  · have hw : impl_within.f (l0.length : Int) 1 8 = some false := by unfold impl_within.f; rw [if_pos (by omega), decide_eq_false (by omega)]
    have HW := Aside0.mk hw
    clear hw
    have hd1 : decide (l0.length ≤ 8) = false := decide_eq_false h8
    rw [hd1, Bool.and_false, Bool.false_and]
    clear hd1
    go_enter Try.func118, Try.ntmps118
    go_wp2_with (go_at_call 173; refine (impl_within.calls _ _ _ _ _ HW.out).mono ?_; rintro e w' ⟨rfl, ⟨nd, rfl⟩⟩)
    go_ret
    exact ⟨rfl, pw_below_drewN (below_alloc (Below.refl _ _) _) _⟩

end Go.Proofs.Ytllnieknogficaa.K
namespace Go.Proofs.Ytllnieknogficaa.K
open Go.RowKit Go.Proofs.YtllnieknogficaaW.PrintWords Go.Proofs.YtllnieknogficaaW.PrintLast Go.Proofs.YtllnieknogficaaW.PrintMore
attribute [local go_sem] max2_int min2_int max_two min_two max_three min_three max_four min_four   -- for this text's walks alone
set_option linter.unusedVariables false
set_option linter.unusedSimpArgs false

/-! ### spec_l1In: function 195 -/
def spec_l1In.f (a0 : Int) (a1 : Int) (a2 : Int) : Option (Bool) := if a0 ≥ a1 then (some (decide (a0 ≤ a2))) else (some false)
set_option maxHeartbeats 8000000 in
set_option maxRecDepth 100000 in
theorem spec_l1In.calls (a0 : Int) (a1 : Int) (a2 : Int) (r : Bool) (w : World) (h : spec_l1In.f a0 a1 a2 = some r) :
    Calls Try.prog 195 #[.int .i64 a0, .int .i64 a1, .int .i64 a2] w fun e w' => e = .returned (.bool r) ∧ Drawn0 w w' := by
  have H : (if a0 ≥ a1 then (some (decide (a0 ≤ a2))) else (some false)) = some r := h
  clear h
  by_cases c4 : a0 ≥ a1
  · rw [if_pos c4] at H
    have c4b0 : decide (a1 ≤ a0) = true := decide_eq_true c4
    clear c4
    obtain rfl := Option.some.inj H
    go_enter Try.func195, Try.ntmps195
    go_wp2
    go_ret
    exact ⟨by first | rfl | (simp; done) | (simp [*]; done), by repeat (first | exact Drawn0.refl _ | apply Drawn0.step)⟩
  · rw [if_neg c4] at H
    have c4b0 : decide (a1 ≤ a0) = false := decide_eq_false c4
    clear c4
    obtain rfl := Option.some.inj H
    go_enter Try.func195, Try.ntmps195
    go_wp2
    go_ret
    exact ⟨by first | rfl | (simp; done) | (simp [*]; done), by repeat (first | exact Drawn0.refl _ | apply Drawn0.step)⟩

end Go.Proofs.Ytllnieknogficaa.K
namespace Go.Proofs.Ytllnieknogficaa.K
open Go.RowKit Go.Proofs.YtllnieknogficaaW.PrintWords Go.Proofs.YtllnieknogficaaW.PrintLast Go.Proofs.YtllnieknogficaaW.PrintMore
attribute [local go_sem] max2_int min2_int max_two min_two max_three min_three max_four min_four   -- for this text's walks alone
set_option linter.unusedVariables false
set_option linter.unusedSimpArgs false

/-! ### spec_l1All: function 196 -/
def spec_l1All.l0 : Nat → Int → Int → List Int → Int → Int → Option (Bool)
  | 0, _, _, _, _, _ => none
  | k + 1, x1, x2, x9, x10, x11 => if x11 < x10 then (if 0 ≤ x11 then (if x11 < (x9.length : Int) then ((spec_l1In.f (rd x9 x11) x1 x2).bind fun t227 => (if t227 = true then (spec_l1All.l0 k x1 x2 x9 x10 (wrap64 (x11 + 1))) else (some false))) else (none)) else (none)) else (some true)
def spec_l1All.f (k : Nat) (l0 : List Int) (a1 : Int) (a2 : Int) : Option (Bool) := spec_l1All.l0 k a1 a2 l0 (l0.length : Int) 0
theorem spec_l1All.mono_l : ∀ k, (∀ y0 y1 y2 y3 y4, LeO (spec_l1All.l0 k y0 y1 y2 y3 y4) (spec_l1All.l0 (k + 1) y0 y1 y2 y3 y4))
  | 0 => fun _ _ _ _ _ r h => by simp [spec_l1All.l0] at h
  | k + 1 => by
    have ih0 := spec_l1All.mono_l k
    · intro y0 y1 y2 y3 y4
      unfold spec_l1All.l0
      repeat' first
      | (with_reducible exact ih0 _ _ _ _ _)
      | (with_reducible exact LeO.refl _)
      | (with_reducible exact LeO.none _)
      | (with_reducible refine LeO.ite ?_ ?_)
      | (with_reducible refine LeO.bind ?_ (fun _ => ?_))
      | exact ih0 _ _ _ _ _
      | exact LeO.none _
      | refine LeO.ite ?_ ?_
      | refine LeO.bind ?_ (fun _ => ?_)
theorem spec_l1All.mono : ∀ a0 a1 a2 k, LeO (spec_l1All.f k a0 a1 a2) (spec_l1All.f (k + 1) a0 a1 a2) := by
  intro a0 a1 a2 k
  have ih0 := spec_l1All.mono_l k
  unfold spec_l1All.f
  repeat' first
      | (with_reducible exact ih0 _ _ _ _ _)
      | (with_reducible exact LeO.refl _)
      | (with_reducible exact LeO.none _)
      | (with_reducible refine LeO.ite ?_ ?_)
      | (with_reducible refine LeO.bind ?_ (fun _ => ?_))
      | exact ih0 _ _ _ _ _
      | exact LeO.none _
      | refine LeO.ite ?_ ?_
      | refine LeO.bind ?_ (fun _ => ?_)
set_option maxHeartbeats 8000000 in
set_option maxRecDepth 100000 in
theorem spec_l1All.calls (k : Nat) (A0 : Option Addr) (c0 : Nat) (l0 : List Int) (a1 : Int) (a2 : Int) (r : Bool) (w : World) (hr0 : Kd.C (Kd.int .i64) w A0 l0.length l0) (hc0 : l0.length ≤ c0) (h : spec_l1All.f k l0 a1 a2 = some r) :
    Calls Try.prog 196 #[.slice A0 l0.length c0, .int .i64 a1, .int .i64 a2] w fun e w' => e = .returned (.bool r) ∧ Drawn0 w w' := by
  have HR0 := Aside0.mk hr0
  have HC0 := Aside0.mk hc0
  clear hr0 hc0
  have H : (spec_l1All.l0 k a1 a2 l0 (l0.length : Int) 0) = some r := h
  clear h
  have H' := Aside0.mk H
  clear H
  go_enter Try.func196, Try.ntmps196
  go_wp2
  go_loopg [11] k (fun kq v11 w' => ∃ (x11_1 : Int), v11 = .int .i64 x11_1 ∧ Aside0 (spec_l1All.l0 kq a1 a2 l0 (l0.length : Int) x11_1 = some r) ∧ Aside0 (kq ≤ k) ∧ Drawn0 w w')
  case atStart => exact ⟨(0), (by first | rfl | (simp; done) | (simp [*]; done)), H', ⟨Nat.le_refl _⟩, by repeat (first | exact Drawn0.refl _ | apply Drawn0.step)⟩
  case round =>
    clear H'
    try clear c1
    try clear p2
    obtain ⟨x11_1, rfl, HA, HK1, ⟨m1, rfl⟩⟩ := hrel
    cases gk with
    | zero => exact absurd HA.out (by simp [spec_l1All.l0])
    | succ k1 =>
      have H := HA.out
      clear HA
      simp only [spec_l1All.l0] at H
      by_cases c4 : x11_1 < (l0.length : Int)
      · rw [if_pos c4] at H
        have c4b0 : decide (x11_1 < (l0.length : Int)) = true := decide_eq_true c4
        clear c4
        by_cases c5 : 0 ≤ x11_1
        · rw [if_pos c5] at H
          have c5b0 : decide (0 ≤ x11_1) = true := decide_eq_true c5
          clear c5
          by_cases c6 : x11_1 < (l0.length : Int)
          · rw [if_pos c6] at H
            have c6b0 : decide (x11_1 < (l0.length : Int)) = true := decide_eq_true c6
            clear c6
            replace H := Option.bind_eq_some_iff.mp H
            obtain ⟨t227, A70, H⟩ := H
            replace H : (if t227 = true then (spec_l1All.l0 k1 a1 a2 l0 (l0.length : Int) (wrap64 (x11_1 + 1))) else (some false)) = some r := H
            have A7 := Aside0.mk A70
            clear A70
            by_cases c8 : t227 = true
            · subst c8
              have H1 : (spec_l1All.l0 k1 a1 a2 l0 (l0.length : Int) (wrap64 (x11_1 + 1))) = some r := by rw [if_pos rfl] at H; exact H
              clear H
              have H := H1
              clear H1
              have H' := Aside0.mk H
              clear H
              have p226 : 0 ≤ (x11_1 : Int) := of_decide_eq_true (by first | (with_reducible assumption) | assumption)
              have q226 : x11_1 < (l0.length : Int) := of_decide_eq_true (by first | (with_reducible assumption) | assumption)
              obtain ⟨ad226, e226, hx226_0⟩ := Kd.at_int HR0.out x11_1 p226 q226
              cases e226
              replace p226 := eq_true p226
              replace q226 := eq_true q226
              go_wp2_with (first | ((with_reducible refine gate_callee (f := 195) rfl ?_); refine goesL_ (some 18) rfl rfl Try.func195 (by kernel_rfl) rfl #[.int .i64 (rd l0 x11_1), .int .i64 a1, .int .i64 a2] rfl (by (try simp only [List.map_toArray, List.map_cons, List.map_nil]); first | done | rfl | (simp only [List.length_drop, List.length_take]; rfl)) ?_; (with_reducible refine (spec_l1In.calls (rd l0 x11_1) a1 a2 true _ A7.out).mono ?_); rintro e w' ⟨rfl, ⟨nd, rfl⟩⟩; refine ⟨_, rfl, ?_⟩))
              go_roundg k1
              case measure => have := HK1.out; omega
              case rel => exact ⟨(wrap64 (x11_1 + 1)), (by first | rfl | (simp; done) | (simp [*]; done)), H', ⟨by have := HK1.out; omega⟩, by repeat (first | exact Drawn0.refl _ | apply Drawn0.step)⟩
            · replace c8 := Bool.eq_false_iff.mpr c8
              subst c8
              have H1 : (some false) = some r := by rw [if_neg (show ¬ (false = true) by decide)] at H; exact H
              clear H
              have H := H1
              clear H1
              obtain rfl := Option.some.inj H
              have p226 : 0 ≤ (x11_1 : Int) := of_decide_eq_true (by first | (with_reducible assumption) | assumption)
              have q226 : x11_1 < (l0.length : Int) := of_decide_eq_true (by first | (with_reducible assumption) | assumption)
              obtain ⟨ad226, e226, hx226_0⟩ := Kd.at_int HR0.out x11_1 p226 q226
              cases e226
              replace p226 := eq_true p226
              replace q226 := eq_true q226
              go_wp2_with (first | ((with_reducible refine gate_callee (f := 195) rfl ?_); refine goesL_ (some 18) rfl rfl Try.func195 (by kernel_rfl) rfl #[.int .i64 (rd l0 x11_1), .int .i64 a1, .int .i64 a2] rfl (by (try simp only [List.map_toArray, List.map_cons, List.map_nil]); first | done | rfl | (simp only [List.length_drop, List.length_take]; rfl)) ?_; (with_reducible refine (spec_l1In.calls (rd l0 x11_1) a1 a2 false _ A7.out).mono ?_); rintro e w' ⟨rfl, ⟨nd, rfl⟩⟩; refine ⟨_, rfl, ?_⟩))
              go_ret
              exact ⟨by first | rfl | (simp; done) | (simp [*]; done), by repeat (first | exact Drawn0.refl _ | apply Drawn0.step)⟩
          · rw [if_neg c6] at H
            exact absurd H (by simp)
        · rw [if_neg c5] at H
          exact absurd H (by simp)
      · rw [if_neg c4] at H
        have c4b0 : decide (x11_1 < (l0.length : Int)) = false := decide_eq_false c4
        clear c4
        obtain rfl := Option.some.inj H
        go_wp2
        go_ret
        exact ⟨by first | rfl | (simp; done) | (simp [*]; done), by repeat (first | exact Drawn0.refl _ | apply Drawn0.step)⟩

end Go.Proofs.Ytllnieknogficaa.K
namespace Go.Proofs.Ytllnieknogficaa.K
open Go.RowKit Go.Proofs.YtllnieknogficaaW.PrintWords Go.Proofs.YtllnieknogficaaW.PrintLast Go.Proofs.YtllnieknogficaaW.PrintMore
attribute [local go_sem] max2_int min2_int max_two min_two max_three min_three max_four min_four   -- for this text's walks alone
set_option linter.unusedVariables false
set_option linter.unusedSimpArgs false

/-! ### spec_plGood: function 125 -/
def spec_plGood.l0 : Nat → List (List Int) → List (List Int) → Int → Int → Option (Bool)
  | 0, _, _, _, _ => none
  | k + 1, x0, x9, x10, x11 => if x11 < x10 then (if 0 ≤ x11 then (if x11 < (x9.length : Int) then (if ((rd_L2 x9 x11).length : Int) = (x0.length : Int) then ((spec_l1All.f k (rd_L2 x9 x11) 0 60).bind fun t380 => (if t380 = true then (spec_plGood.l0 k x0 x9 x10 (wrap64 (x11 + 1))) else (some false))) else (some false)) else (none)) else (none)) else (some true)
def spec_plGood.f (k : Nat) (l0 : List (List Int)) : Option (Bool) := (spec_l1In.f (l0.length : Int) 1 8).bind fun t378 => (if t378 = true then (spec_plGood.l0 k l0 l0 (l0.length : Int) 0) else (some false))
theorem spec_plGood.mono_l : ∀ k, (∀ y0 y1 y2 y3, LeO (spec_plGood.l0 k y0 y1 y2 y3) (spec_plGood.l0 (k + 1) y0 y1 y2 y3))
  | 0 => fun _ _ _ _ r h => by simp [spec_plGood.l0] at h
  | k + 1 => by
    have ih0 := spec_plGood.mono_l k
    · intro y0 y1 y2 y3
      unfold spec_plGood.l0
      repeat' first
      | (with_reducible exact ih0 _ _ _ _)
      | (with_reducible exact spec_l1All.mono _ _ _ _)
      | (with_reducible exact LeO.refl _)
      | (with_reducible exact LeO.none _)
      | (with_reducible refine LeO.ite ?_ ?_)
      | (with_reducible refine LeO.bind ?_ (fun _ => ?_))
      | exact ih0 _ _ _ _
      | exact spec_l1All.mono _ _ _ _
      | exact LeO.none _
      | refine LeO.ite ?_ ?_
      | refine LeO.bind ?_ (fun _ => ?_)
theorem spec_plGood.mono : ∀ a0 k, LeO (spec_plGood.f k a0) (spec_plGood.f (k + 1) a0) := by
  intro a0 k
  have ih0 := spec_plGood.mono_l k
  unfold spec_plGood.f
  repeat' first
      | (with_reducible exact ih0 _ _ _ _)
      | (with_reducible exact spec_l1All.mono _ _ _ _)
      | (with_reducible exact LeO.refl _)
      | (with_reducible exact LeO.none _)
      | (with_reducible refine LeO.ite ?_ ?_)
      | (with_reducible refine LeO.bind ?_ (fun _ => ?_))
      | exact ih0 _ _ _ _
      | exact spec_l1All.mono _ _ _ _
      | exact LeO.none _
      | refine LeO.ite ?_ ?_
      | refine LeO.bind ?_ (fun _ => ?_)
set_option maxHeartbeats 8000000 in
set_option maxRecDepth 100000 in
theorem spec_plGood.calls (k : Nat) (A0 : Option Addr) (c0 : Nat) (l0 : List (List Int)) (r : Bool) (w : World) (hr0 : Kd.C (Kd.slice 3 (Kd.int .i64)) w A0 l0.length l0) (hc0 : l0.length ≤ c0) (h : spec_plGood.f k l0 = some r) :
    Calls Try.prog 125 #[.slice A0 l0.length c0] w fun e w' => e = .returned (.bool r) ∧ Drawn0 w w' := by
  have HR0 := Aside0.mk hr0
  have HC0 := Aside0.mk hc0
  clear hr0 hc0
  have H : ((spec_l1In.f (l0.length : Int) 1 8).bind fun t378 => (if t378 = true then (spec_plGood.l0 k l0 l0 (l0.length : Int) 0) else (some false))) = some r := h
  clear h
  replace H := Option.bind_eq_some_iff.mp H
  obtain ⟨t378, A20, H⟩ := H
  replace H : (if t378 = true then (spec_plGood.l0 k l0 l0 (l0.length : Int) 0) else (some false)) = some r := H
  have A2 := Aside0.mk A20
  clear A20
  by_cases c3 : t378 = true
  · subst c3
    have H1 : (spec_plGood.l0 k l0 l0 (l0.length : Int) 0) = some r := by rw [if_pos rfl] at H; exact H
    clear H
    have H := H1
    clear H1
    have H' := Aside0.mk H
    clear H
    go_enter Try.func125, Try.ntmps125
    go_wp2_with (first | ((with_reducible refine gate_callee (f := 195) rfl ?_); refine goesL_ (some 7) rfl rfl Try.func195 (by kernel_rfl) rfl #[.int .i64 (l0.length : Int), .int .i64 1, .int .i64 8] rfl (by (try simp only [List.map_toArray, List.map_cons, List.map_nil]); first | done | rfl | (simp only [List.length_drop, List.length_take]; rfl)) ?_; (with_reducible refine (spec_l1In.calls (l0.length : Int) 1 8 true _ A2.out).mono ?_); rintro e w' ⟨rfl, ⟨nd, rfl⟩⟩; refine ⟨_, rfl, ?_⟩))
    go_loopg [11] k (fun kq v11 w' => ∃ (x11_1 : Int), v11 = .int .i64 x11_1 ∧ Aside0 (spec_plGood.l0 kq l0 l0 (l0.length : Int) x11_1 = some r) ∧ Aside0 (kq ≤ k) ∧ Drawn0 w w')
    case atStart => exact ⟨(0), (by first | rfl | (simp; done) | (simp [*]; done)), H', ⟨Nat.le_refl _⟩, by repeat (first | exact Drawn0.refl _ | apply Drawn0.step)⟩
    case round =>
      clear H'
      try clear c1
      try clear p2
      try clear c3
      obtain ⟨x11_1, rfl, HA, HK1, ⟨m1, rfl⟩⟩ := hrel
      cases gk with
      | zero => exact absurd HA.out (by simp [spec_plGood.l0])
      | succ k1 =>
        have H := HA.out
        clear HA
        simp only [spec_plGood.l0] at H
        by_cases c4 : x11_1 < (l0.length : Int)
        · rw [if_pos c4] at H
          have c4b0 : decide (x11_1 < (l0.length : Int)) = true := decide_eq_true c4
          clear c4
          by_cases c5 : 0 ≤ x11_1
          · rw [if_pos c5] at H
            have c5b0 : decide (0 ≤ x11_1) = true := decide_eq_true c5
            clear c5
            by_cases c6 : x11_1 < (l0.length : Int)
            · rw [if_pos c6] at H
              have c6b0 : decide (x11_1 < (l0.length : Int)) = true := decide_eq_true c6
              clear c6
              by_cases c7 : ((rd_L2 l0 x11_1).length : Int) = (l0.length : Int)
              · rw [if_pos c7] at H
                have c7b0 : (((rd_L2 l0 x11_1).length : Int) == (l0.length : Int)) = true := beq_iff_eq.mpr c7
                have c7b1 : (((rd_L2 l0 x11_1).length : Int) != (l0.length : Int)) = false := bne_eq_false_iff_eq.mpr c7
                have c7b2 : ((rd_L2 l0 x11_1).length == l0.length) = true := by first | simpa using c7 | (simp at c7 ⊢; omega)
                clear c7
                replace H := Option.bind_eq_some_iff.mp H
                obtain ⟨t380, A80, H⟩ := H
                replace H : (if t380 = true then (spec_plGood.l0 k1 l0 l0 (l0.length : Int) (wrap64 (x11_1 + 1))) else (some false)) = some r := H
                have A8 := Aside0.mk A80
                clear A80
                by_cases c9 : t380 = true
                · subst c9
                  have H1 : (spec_plGood.l0 k1 l0 l0 (l0.length : Int) (wrap64 (x11_1 + 1))) = some r := by rw [if_pos rfl] at H; exact H
                  clear H
                  have H := H1
                  clear H1
                  have H' := Aside0.mk H
                  clear H
                  have p379 : 0 ≤ (x11_1 : Int) := of_decide_eq_true (by first | (with_reducible assumption) | assumption)
                  have q379 : x11_1 < (l0.length : Int) := of_decide_eq_true (by first | (with_reducible assumption) | assumption)
                  obtain ⟨ad379, A379_0, c379_0, e379, hx379_0, hl379_0, hi379_0⟩ := at_L2 HR0.out x11_1 p379 q379
                  cases e379
                  have HR379_0 := Aside0.mk hi379_0
                  have HC379_0 := Aside0.mk hl379_0
                  clear hi379_0 hl379_0
                  replace p379 := eq_true p379
                  replace q379 := eq_true q379
                  go_wp2_with (first | (go_at_call 196; (with_reducible refine (spec_l1All.calls k1 _ _ (rd_L2 l0 x11_1) 0 60 true _ ?side1 ?side2 A8.out).mono ?_); (case side1 => repeat (first | exact HR379_0.out | (with_reducible refine Kd.C_alloc ?_ _) | (with_reducible refine Kd.C_drewN ?_ _) | (with_reducible refine Kd.C_drew ?_))); (case side2 => exact HC379_0.out); rintro e w' ⟨rfl, ⟨nd, rfl⟩⟩))
                  go_roundg k1
                  case measure => have := HK1.out; omega
                  case rel => exact ⟨(wrap64 (x11_1 + 1)), (by first | rfl | (simp; done) | (simp [*]; done)), H', ⟨by have := HK1.out; omega⟩, by repeat (first | exact Drawn0.refl _ | apply Drawn0.step)⟩
                · replace c9 := Bool.eq_false_iff.mpr c9
                  subst c9
                  have H1 : (some false) = some r := by rw [if_neg (show ¬ (false = true) by decide)] at H; exact H
                  clear H
                  have H := H1
                  clear H1
                  obtain rfl := Option.some.inj H
                  have p379 : 0 ≤ (x11_1 : Int) := of_decide_eq_true (by first | (with_reducible assumption) | assumption)
                  have q379 : x11_1 < (l0.length : Int) := of_decide_eq_true (by first | (with_reducible assumption) | assumption)
                  obtain ⟨ad379, A379_0, c379_0, e379, hx379_0, hl379_0, hi379_0⟩ := at_L2 HR0.out x11_1 p379 q379
                  cases e379
                  have HR379_0 := Aside0.mk hi379_0
                  have HC379_0 := Aside0.mk hl379_0
                  clear hi379_0 hl379_0
                  replace p379 := eq_true p379
                  replace q379 := eq_true q379
                  go_wp2_with (first | (go_at_call 196; (with_reducible refine (spec_l1All.calls k1 _ _ (rd_L2 l0 x11_1) 0 60 false _ ?side1 ?side2 A8.out).mono ?_); (case side1 => repeat (first | exact HR379_0.out | (with_reducible refine Kd.C_alloc ?_ _) | (with_reducible refine Kd.C_drewN ?_ _) | (with_reducible refine Kd.C_drew ?_))); (case side2 => exact HC379_0.out); rintro e w' ⟨rfl, ⟨nd, rfl⟩⟩))
                  go_ret
                  exact ⟨by first | rfl | (simp; done) | (simp [*]; done), by repeat (first | exact Drawn0.refl _ | apply Drawn0.step)⟩
              · rw [if_neg c7] at H
                have c7b0 : (((rd_L2 l0 x11_1).length : Int) == (l0.length : Int)) = false := beq_eq_false_iff_ne.mpr c7
                have c7b1 : (((rd_L2 l0 x11_1).length : Int) != (l0.length : Int)) = true := bne_iff_ne.mpr c7
                have c7b2 : ((rd_L2 l0 x11_1).length == l0.length) = false := by first | simpa using c7 | (simp at c7 ⊢; omega)
                obtain rfl := Option.some.inj H
                have p379 : 0 ≤ (x11_1 : Int) := of_decide_eq_true (by first | (with_reducible assumption) | assumption)
                have q379 : x11_1 < (l0.length : Int) := of_decide_eq_true (by first | (with_reducible assumption) | assumption)
                obtain ⟨ad379, A379_0, c379_0, e379, hx379_0, hl379_0, hi379_0⟩ := at_L2 HR0.out x11_1 p379 q379
                cases e379
                have HR379_0 := Aside0.mk hi379_0
                have HC379_0 := Aside0.mk hl379_0
                clear hi379_0 hl379_0
                replace p379 := eq_true p379
                replace q379 := eq_true q379
                go_wp2
                go_ret
                exact ⟨by first | rfl | (simp; done) | (simp [*]; done), by repeat (first | exact Drawn0.refl _ | apply Drawn0.step)⟩
            · rw [if_neg c6] at H
              exact absurd H (by simp)
          · rw [if_neg c5] at H
            exact absurd H (by simp)
        · rw [if_neg c4] at H
          have c4b0 : decide (x11_1 < (l0.length : Int)) = false := decide_eq_false c4
          clear c4
          obtain rfl := Option.some.inj H
          go_wp2
          go_ret
          exact ⟨by first | rfl | (simp; done) | (simp [*]; done), by repeat (first | exact Drawn0.refl _ | apply Drawn0.step)⟩
  · replace c3 := Bool.eq_false_iff.mpr c3
    subst c3
    have H1 : (some false) = some r := by rw [if_neg (show ¬ (false = true) by decide)] at H; exact H
    clear H
    have H := H1
    clear H1
    obtain rfl := Option.some.inj H
    go_enter Try.func125, Try.ntmps125
    go_wp2_with (first | ((with_reducible refine gate_callee (f := 195) rfl ?_); refine goesL_ (some 7) rfl rfl Try.func195 (by kernel_rfl) rfl #[.int .i64 (l0.length : Int), .int .i64 1, .int .i64 8] rfl (by (try simp only [List.map_toArray, List.map_cons, List.map_nil]); first | done | rfl | (simp only [List.length_drop, List.length_take]; rfl)) ?_; (with_reducible refine (spec_l1In.calls (l0.length : Int) 1 8 false _ A2.out).mono ?_); rintro e w' ⟨rfl, ⟨nd, rfl⟩⟩; refine ⟨_, rfl, ?_⟩))
    go_ret
    exact ⟨by first | rfl | (simp; done) | (simp [*]; done), by repeat (first | exact Drawn0.refl _ | apply Drawn0.step)⟩

end Go.Proofs.Ytllnieknogficaa.K
namespace Go.Proofs.Ytllnieknogficaa.K
open Go.RowKit Go.Proofs.YtllnieknogficaaW.PrintWords Go.Proofs.YtllnieknogficaaW.PrintLast Go.Proofs.YtllnieknogficaaW.PrintMore
attribute [local go_sem] max2_int min2_int max_two min_two max_three min_three max_four min_four   -- for this text's walks alone
set_option linter.unusedVariables false
set_option linter.unusedSimpArgs false
/-- A plan: from 1 to 8 rows, each with as many numbers from 0 to 60. -/
def planB (l : List (List Int)) : Bool := decide (1 ≤ l.length) && decide (l.length ≤ 8) && l.all (impl_isPlan.p l.length)
theorem isPlan_f (l : List (List Int)) : impl_isPlan.f l = some (planB l) := rfl
theorem planB_iff (l : List (List Int)) : planB l = true ↔ 1 ≤ l.length ∧ l.length ≤ 8 ∧ ∀ r ∈ l, r.length = l.length ∧ ∀ x ∈ r, 0 ≤ x ∧ x ≤ 60 := by
  simp [planB, impl_isPlan.p, List.all_eq_true, and_assoc]
theorem l1All_l0 (l : List Int) (a b : Int) (hl : l.length ≤ 4611686018427387904) : ∀ d (i : Nat), i ≤ l.length → l.length - i = d →
    Ev (fun k => spec_l1All.l0 k a b l (l.length : Int) (i : Int)) ((l.drop i).all fun x => decide (a ≤ x) && decide (x ≤ b)) := by
  intro d
  induction d with
  | zero =>
    intro i hi hd
    have : i = l.length := by omega
    subst this
    refine ev_succ ?_
    simp only [spec_l1All.l0, if_neg (Int.lt_irrefl _), List.drop_length]
    exact ev_now _ _ rfl
  | succ d ih =>
    intro i hi hd
    have hlt : i < l.length := by omega
    have h1 : (i : Int) < (l.length : Int) := by omega
    have h2 : (0 : Int) ≤ (i : Int) := by omega
    refine ev_succ ?_
    simp only [spec_l1All.l0, if_pos h1, if_pos h2, rd_nat l i hlt, wrap64_nat_succ (show i < 9223372036854775807 by omega)]
    rw [List.drop_eq_getElem_cons hlt, List.all_cons]
    unfold spec_l1In.f
    by_cases h3 : a ≤ l[i]
    · by_cases h4 : l[i] ≤ b
      · simp only [ge_iff_le, if_pos h3, decide_eq_true h3, decide_eq_true h4, Option.bind_some, if_true, Bool.and_self, Bool.true_and]
        exact ih (i + 1) (by omega) (by omega)
      · simp only [ge_iff_le, if_pos h3, decide_eq_false h4, Option.bind_some, Bool.and_false, Bool.false_and]
        exact ev_now _ _ rfl
    · simp only [ge_iff_le, if_neg h3, decide_eq_false h3, Option.bind_some, Bool.false_and]
      exact ev_now _ _ rfl
theorem l1All_ev (l : List Int) (a b : Int) (hl : l.length ≤ 4611686018427387904) : Ev (fun k => spec_l1All.f k l a b) (l.all fun x => decide (a ≤ x) && decide (x ≤ b)) := by
  unfold spec_l1All.f
  have := l1All_l0 l a b hl l.length 0 (by omega) (by omega)
  simpa using this
theorem plGood_l0 (l : List (List Int)) (hl : l.length ≤ 8) : ∀ d (i : Nat), i ≤ l.length → l.length - i = d →
    Ev (fun k => spec_plGood.l0 k l l (l.length : Int) (i : Int)) ((l.drop i).all (impl_isPlan.p l.length)) := by
  intro d
  induction d with
  | zero =>
    intro i hi hd
    have : i = l.length := by omega
    subst this
    refine ev_succ ?_
    simp only [spec_plGood.l0, if_neg (Int.lt_irrefl _), List.drop_length]
    exact ev_now _ _ rfl
  | succ d ih =>
    intro i hi hd
    have hlt : i < l.length := by omega
    have h1 : (i : Int) < (l.length : Int) := by omega
    have h2 : (0 : Int) ≤ (i : Int) := by omega
    refine ev_succ ?_
    simp only [spec_plGood.l0, if_pos h1, if_pos h2, rdL_nat l i hlt, wrap64_nat_succ (show i < 9223372036854775807 by omega)]
    rw [List.drop_eq_getElem_cons hlt, List.all_cons]
    by_cases h3 : l[i].length = l.length
    · have h4 : ((l[i].length : Nat) : Int) = (l.length : Int) := by omega
      have hp : impl_isPlan.p l.length l[i] = l[i].all fun x => decide (0 ≤ x) && decide (x ≤ 60) := by simp [impl_isPlan.p, h3]
      simp only [if_pos h4]
      refine Ev.bind (l1All_ev l[i] 0 60 (by omega)) ?_
      rw [hp]
      cases hq : l[i].all fun x => decide (0 ≤ x) && decide (x ≤ 60) with
      | true => simp only [if_true, Bool.true_and]; exact ih (i + 1) (by omega) (by omega)
      | false => exact ev_now _ _ rfl
    · have h4 : ¬ (((l[i].length : Nat) : Int) = (l.length : Int)) := by omega
      have hp : impl_isPlan.p l.length l[i] = false := by simp [impl_isPlan.p, h3]
      simp only [if_neg h4, hp, Bool.false_and]
      exact ev_now _ _ rfl
theorem plGood_ev (l : List (List Int)) : Ev (fun k => spec_plGood.f k l) (planB l) := by
  unfold spec_plGood.f spec_l1In.f planB
  by_cases h1 : 1 ≤ l.length
  · have h1' : (l.length : Int) ≥ 1 := by omega
    by_cases h2 : l.length ≤ 8
    · have h2' : (l.length : Int) ≤ 8 := by omega
      simp only [if_pos h1', decide_eq_true h2', Option.bind_some, if_true, decide_eq_true h1, decide_eq_true h2, Bool.true_and]
      have := plGood_l0 l h2 l.length 0 (by omega) (by omega)
      simpa using this
    · have h2' : ¬ (l.length : Int) ≤ 8 := by omega
      simp only [if_pos h1', decide_eq_false h2', Option.bind_some, decide_eq_false h2, Bool.and_false, Bool.false_and]
      exact ev_now _ _ rfl
  · have h1' : ¬ (l.length : Int) ≥ 1 := by omega
    simp only [if_neg h1', Option.bind_some, decide_eq_false h1, Bool.false_and]
    exact ev_now _ _ rfl
/-! ### rows and columns exchanged -/
def colOf (l : List (List Int)) (j : Nat) : List Int := l.map fun r => r.getD j 0
def turned (l : List (List Int)) : List (List Int) := (List.range l.length).map (colOf l)
theorem colOf_length (l : List (List Int)) (j : Nat) : (colOf l j).length = l.length := by simp [colOf]
theorem turned_length (l : List (List Int)) : (turned l).length = l.length := by simp [turned]
theorem turned_at (l : List (List Int)) (j : Nat) (h : j < l.length) : (turned l)[j]'(by rw [turned_length]; exact h) = colOf l j := by simp [turned]
theorem turned_getD (l : List (List Int)) (j : Nat) (h : j < l.length) : (turned l).getD j [] = colOf l j := by
  rw [List.getD_eq_getElem?_getD, List.getElem?_eq_getElem (by rw [turned_length]; exact h), turned_at l j h]; rfl
theorem colOf_getD (l : List (List Int)) (i j : Nat) : (colOf l j).getD i 0 = (l.getD i []).getD j 0 := by
  simp only [colOf, List.getD_eq_getElem?_getD, List.getElem?_map]
  cases l[i]? <;> simp
theorem colOf_mem (l : List (List Int)) (j : Nat) (h : ∀ r ∈ l, j < r.length) (x : Int) (hx : x ∈ colOf l j) : ∃ r ∈ l, x ∈ r := by
  simp only [colOf, List.mem_map] at hx
  obtain ⟨r, hr, rfl⟩ := hx
  refine ⟨r, hr, ?_⟩
  rw [List.getD_eq_getElem?_getD, List.getElem?_eq_getElem (h r hr)]
  exact List.getElem_mem _
theorem turned_plan (l : List (List Int)) (h : planB l = true) : planB (turned l) = true := by
  obtain ⟨h1, h2, h3⟩ := (planB_iff l).1 h
  refine (planB_iff _).2 ⟨by rw [turned_length]; exact h1, by rw [turned_length]; exact h2, fun r hr => ?_⟩
  simp only [turned, List.mem_map, List.mem_range] at hr
  obtain ⟨j, hj, rfl⟩ := hr
  refine ⟨by rw [colOf_length, turned_length], fun x hx => ?_⟩
  obtain ⟨r, hr, hx⟩ := colOf_mem l j (fun r hr => by rw [(h3 r hr).1]; exact hj) x hx
  exact (h3 r hr).2 x hx
theorem ext_getD {α : Type} (d : α) {a b : List α} (hl : a.length = b.length) (h : ∀ i, i < a.length → a.getD i d = b.getD i d) : a = b := by
  refine List.ext_getElem hl fun i h1 h2 => ?_
  have := h i h1
  rw [List.getD_eq_getElem?_getD, List.getD_eq_getElem?_getD, List.getElem?_eq_getElem h1, List.getElem?_eq_getElem h2] at this
  simpa using this
theorem turned_turned (l : List (List Int)) (h : ∀ r ∈ l, r.length = l.length) : turned (turned l) = l := by
  refine ext_getD [] (by rw [turned_length, turned_length]) fun i hi => ?_
  rw [turned_length, turned_length] at hi
  rw [turned_getD _ _ (by rw [turned_length]; exact hi)]
  have hm : l.getD i [] ∈ l := by rw [List.getD_eq_getElem?_getD, List.getElem?_eq_getElem hi]; exact List.getElem_mem _
  refine ext_getD 0 (by rw [colOf_length, turned_length, h _ hm]) fun j hj => ?_
  rw [colOf_length, turned_length] at hj
  rw [colOf_getD, turned_getD _ _ hj, colOf_getD]
end Go.Proofs.Ytllnieknogficaa.K
namespace Go.Proofs.Ytllnieknogficaa.K
open Go.RowKit Go.Proofs.YtllnieknogficaaW.PrintWords Go.Proofs.YtllnieknogficaaW.PrintLast Go.Proofs.YtllnieknogficaaW.PrintMore
attribute [local go_sem] max2_int min2_int max_two min_two max_three min_three max_four min_four   -- for this text's walks alone
set_option linter.unusedVariables false
set_option linter.unusedSimpArgs false

/-! ### impl_turn: function 127 -/
mutual
def impl_turn.l0 : Nat → List (List Int) → List (List Int) → Int → Int → Option ((List (List Int)))
  | 0, _, _, _, _ => none
  | k + 1, x3, x13, x14, x15 => if x15 < x14 then (if 0 ≤ x15 then (if x15 < (x13.length : Int) then (impl_turn.l1 k x3 x13 x14 x15 (rd_L2 x13 x15) ((rd_L2 x13 x15).length : Int) 0) else (none)) else (none)) else (some x3)
def impl_turn.l1 : Nat → List (List Int) → List (List Int) → Int → Int → List Int → Int → Int → Option ((List (List Int)))
  | 0, _, _, _, _, _, _, _ => none
  | k + 1, x3, x13, x14, x15, x19, x20, x21 => if x21 < x20 then (if 0 ≤ x21 then (if x21 < (x19.length : Int) then (if x21 < (x3.length : Int) then (if (rd_L2 x3 x21).length < 17592186044416 then (impl_turn.l1 k (x3.set (x21 : Int).toNat ((rd_L2 x3 x21) ++ [rd x19 x21])) x13 x14 x15 x19 x20 (wrap64 (x21 + 1))) else (none)) else (none)) else (none)) else (none)) else (impl_turn.l0 k x3 x13 x14 (wrap64 (x15 + 1)))
end
def impl_turn.f (k : Nat) (l0 : List (List Int)) : Option ((List (List Int))) := if 0 < (l0.length : Int) then (if 0 ≤ ((rd_L2 l0 0).length : Int) then (if (((rd_L2 l0 0).length : Int) : Int).toNat ≤ 11728124029610 then (impl_turn.l0 k (List.replicate (((rd_L2 l0 0).length : Int) : Int).toNat []) l0 (l0.length : Int) 0) else (none)) else (none)) else (none)
theorem impl_turn.mono_l : ∀ k, (∀ y0 y1 y2 y3, LeO (impl_turn.l0 k y0 y1 y2 y3) (impl_turn.l0 (k + 1) y0 y1 y2 y3)) ∧ (∀ y0 y1 y2 y3 y4 y5 y6, LeO (impl_turn.l1 k y0 y1 y2 y3 y4 y5 y6) (impl_turn.l1 (k + 1) y0 y1 y2 y3 y4 y5 y6))
  | 0 => ⟨fun _ _ _ _ r h => by simp [impl_turn.l0] at h, fun _ _ _ _ _ _ _ r h => by simp [impl_turn.l1] at h⟩
  | k + 1 => by
    obtain ⟨ih0, ih1⟩ := impl_turn.mono_l k
    refine ⟨?_, ?_⟩
    · intro y0 y1 y2 y3
      unfold impl_turn.l0
      repeat' first
      | (with_reducible exact ih0 _ _ _ _)
      | (with_reducible exact ih1 _ _ _ _ _ _ _)
      | (with_reducible exact LeO.refl _)
      | (with_reducible exact LeO.none _)
      | (with_reducible refine LeO.ite ?_ ?_)
      | (with_reducible refine LeO.bind ?_ (fun _ => ?_))
      | exact ih0 _ _ _ _
      | exact ih1 _ _ _ _ _ _ _
      | exact LeO.none _
      | refine LeO.ite ?_ ?_
      | refine LeO.bind ?_ (fun _ => ?_)
    · intro y0 y1 y2 y3 y4 y5 y6
      unfold impl_turn.l1
      repeat' first
      | (with_reducible exact ih0 _ _ _ _)
      | (with_reducible exact ih1 _ _ _ _ _ _ _)
      | (with_reducible exact LeO.refl _)
      | (with_reducible exact LeO.none _)
      | (with_reducible refine LeO.ite ?_ ?_)
      | (with_reducible refine LeO.bind ?_ (fun _ => ?_))
      | exact ih0 _ _ _ _
      | exact ih1 _ _ _ _ _ _ _
      | exact LeO.none _
      | refine LeO.ite ?_ ?_
      | refine LeO.bind ?_ (fun _ => ?_)
theorem impl_turn.mono : ∀ a0 k, LeO (impl_turn.f k a0) (impl_turn.f (k + 1) a0) := by
  intro a0 k
  obtain ⟨ih0, ih1⟩ := impl_turn.mono_l k
  unfold impl_turn.f
  repeat' first
      | (with_reducible exact ih0 _ _ _ _)
      | (with_reducible exact ih1 _ _ _ _ _ _ _)
      | (with_reducible exact LeO.refl _)
      | (with_reducible exact LeO.none _)
      | (with_reducible refine LeO.ite ?_ ?_)
      | (with_reducible refine LeO.bind ?_ (fun _ => ?_))
      | exact ih0 _ _ _ _
      | exact ih1 _ _ _ _ _ _ _
      | exact LeO.none _
      | refine LeO.ite ?_ ?_
      | refine LeO.bind ?_ (fun _ => ?_)
set_option maxHeartbeats 8000000 in
set_option maxRecDepth 100000 in
theorem impl_turn.calls (k : Nat) (A0 : Option Addr) (c0 : Nat) (l0 : List (List Int)) (r : List (List Int)) (w : World) (hr0 : Kd.C (Kd.slice 3 (Kd.int .i64)) w A0 l0.length l0) (hc0 : l0.length ≤ c0) (h : impl_turn.f k l0 = some r) :
    Calls Try.prog 127 #[.slice A0 l0.length c0] w fun e w' => ∃ v0_ : Value, e = .returned (v0_) ∧ Kd.S (Kd.slice 3 (Kd.int .i64)) 24 w' w.heap.size (fun _ => True) v0_ r ∧ Below w.heap.size w w' := by
  have HR0 := Aside0.mk hr0
  have HC0 := Aside0.mk hc0
  clear hr0 hc0
  have HB := Aside0.mk (Below.refl w.heap.size w)
  have H : (if 0 < (l0.length : Int) then (if 0 ≤ ((rd_L2 l0 0).length : Int) then (if (((rd_L2 l0 0).length : Int) : Int).toNat ≤ 11728124029610 then (impl_turn.l0 k (List.replicate (((rd_L2 l0 0).length : Int) : Int).toNat []) l0 (l0.length : Int) 0) else (none)) else (none)) else (none)) = some r := h
  clear h
  by_cases c2 : 0 < (l0.length : Int)
  · rw [if_pos c2] at H
    have c2b0 : decide (0 < (l0.length : Int)) = true := decide_eq_true c2
    have c2b1 : decide (0 < l0.length) = true := decide_eq_true (by omega)
    clear c2
    by_cases c3 : 0 ≤ ((rd_L2 l0 0).length : Int)
    · rw [if_pos c3] at H
      have c3b0 := eq_true c3
      have c3b1 : decide (0 ≤ ((rd_L2 l0 0).length : Int)) = true := decide_eq_true c3
      clear c3
      by_cases c4 : (((rd_L2 l0 0).length : Int) : Int).toNat ≤ 11728124029610
      · rw [if_pos c4] at H
        have c4b0 := eq_true c4
        have c4b1 : decide ((((rd_L2 l0 0).length : Int) : Int).toNat ≤ 11728124029610) = true := decide_eq_true c4
        clear c4
        obtain ⟨y407, hy407⟩ : ∃ y_ : List (List Int), y_ = (List.replicate (((rd_L2 l0 0).length : Int) : Int).toNat []) := ⟨_, rfl⟩
        replace H : (impl_turn.l0 k y407 l0 (l0.length : Int) 0) = some r := by first | (rw [hy407]; with_reducible exact H) | (have H2_ := (Option.bind_some _ _).symm.trans H; rw [hy407]; with_reducible exact H2_) | (have H2_ := (Option.bind_some _ _).symm.trans H; with_reducible exact H2_) | with_reducible exact H | (rw [hy407]; exact H) | exact H
        have Ny407 := Aside0.mk hy407
        clear hy407
        have H' := Aside0.mk H
        clear H
        have p406 : 0 ≤ (0 : Int) := (by omega)
        have q406 : 0 < (l0.length : Int) := of_decide_eq_true (by first | (with_reducible assumption) | assumption)
        obtain ⟨ad406, A406_0, c406_0, e406, hx406_0, hl406_0, hi406_0⟩ := at_L2 HR0.out 0 p406 q406
        cases e406
        have qi406 : (0 < l0.length) = True := eq_true (by omega)
        (try rw [show ((0 : Int)).toNat = 0 from rfl] at hx406_0)
        (try rw [Addr.add_zero'] at hx406_0)
        have HR406_0 := Aside0.mk hi406_0
        have HC406_0 := Aside0.mk hl406_0
        clear hi406_0 hl406_0
        replace p406 := eq_true p406
        replace q406 := eq_true q406
        go_enter Try.func127, Try.ntmps127
        go_wp2_with (first | ((with_reducible refine gate_dst (N := 12) rfl ?_); refine Kd.S_make (Kd.slice 3 (Kd.int .i64)) _ 24 rfl (N := 12) rfl 37 _ _ rfl ((rd_L2 l0 0).length : Int) rfl rfl Try.underlying37 (.slice none 0 0) 24 info24 rfl (by decide) (by omega) [] (ok := fun _ => True) (okp := fun _ => True) ⟨_, rfl, Kd.R_nil _ _ _ _ _⟩ (fun _ hk => hk) trivial (of_decide_eq_true (by first | (with_reducible assumption) | assumption)) (Nat.le_trans (Nat.mul_le_mul_right _ (of_decide_eq_true (by first | (with_reducible assumption) | assumption) : ((rd_L2 l0 0).length : Int).toNat ≤ 11728124029610)) (by omega)) (Below.refl _ _) (Nat.le_refl _) ?_; intro v408 w5 ho6 hb hg_ hnew_; clear hg_ hnew_; (first | rw [← Ny407.out] at ho6 | (simp only [Int.reduceToNat] at ho6; rw [← Ny407.out] at ho6)); have n0_ := Aside0.mk (Kd.S_lower ho6 (below_size (by repeat (first | (with_reducible first | exact HB.out | apply below_alloc | apply pw_below_drewN | apply below_drew1) | exact HB.out)))); have n1_ := Aside0.mk (below_step (by repeat (first | (with_reducible first | exact HB.out | apply below_alloc | apply pw_below_drewN | apply below_drew1) | exact HB.out)) hb); clear HB; have HO409 := n0_; have HB := n1_; clear n0_ n1_; clear hb ho6))
        go_loopg [15] k (fun kq v15 w' => ∃ (x3_1 : List (List Int)) (x15_1 : Int), v15 = .int .i64 x15_1 ∧ Aside0 (impl_turn.l0 kq x3_1 l0 (l0.length : Int) x15_1 = some r) ∧ Aside0 (kq ≤ k) ∧ Aside0 (Kd.S (Kd.slice 3 (Kd.int .i64)) 24 w' w.heap.size (fun _ => True) v408 x3_1) ∧ Aside0 (Below w.heap.size w w'))
        case atStart => exact ⟨(y407), (0), (by first | rfl | (simp; done) | (simp [*]; done)), H', ⟨Nat.le_refl _⟩, ⟨by (with_reducible repeat (first | apply Kd.S_alloc | apply Kd.S_drewN | apply Kd.S_drew)); exact HO409.out⟩, ⟨by repeat (first | (with_reducible first | exact HB.out | apply below_alloc | apply pw_below_drewN | apply below_drew1) | exact HB.out)⟩⟩
        case round =>
          clear H'
          try clear c1
          try clear c2
          try clear c2b0
          try clear c2b1
          try clear p2
          try clear c3
          try clear c3b0
          try clear c3b1
          try clear c4
          try clear c4b0
          try clear c4b1
          try clear p4
          try clear q4
          try clear hx4
          try clear qi4
          try clear hx406_0
          try clear p406
          try clear q406
          obtain ⟨x3_1, x15_1, rfl, HA, HK1, HO_3, HB⟩ := hrel
          cases gk with
          | zero => exact absurd HA.out (by simp [impl_turn.l0])
          | succ k1 =>
            have H := HA.out
            clear HA
            simp only [impl_turn.l0] at H
            by_cases c7 : x15_1 < (l0.length : Int)
            · rw [if_pos c7] at H
              have c7b0 : decide (x15_1 < (l0.length : Int)) = true := decide_eq_true c7
              clear c7
              by_cases c8 : 0 ≤ x15_1
              · rw [if_pos c8] at H
                have c8b0 : decide (0 ≤ x15_1) = true := decide_eq_true c8
                clear c8
                by_cases c9 : x15_1 < (l0.length : Int)
                · rw [if_pos c9] at H
                  have c9b0 : decide (x15_1 < (l0.length : Int)) = true := decide_eq_true c9
                  clear c9
                  have H' := Aside0.mk H
                  clear H
                  have p410 : 0 ≤ (x15_1 : Int) := of_decide_eq_true (by first | (with_reducible assumption) | assumption)
                  have q410 : x15_1 < (l0.length : Int) := of_decide_eq_true (by first | (with_reducible assumption) | assumption)
                  obtain ⟨ad410, A410_0, c410_0, e410, hx410_0, hl410_0, hi410_0⟩ := at_L2 HR0.out x15_1 p410 q410
                  obtain rfl : ad406 = ad410 := (by injection e410)
                  replace hx410_0 := (HB.out.cell (World.block_lt_of_cell? w _ hx410_0)).trans hx410_0
                  have HR410_0 := Aside0.mk hi410_0
                  have HC410_0 := Aside0.mk hl410_0
                  clear hi410_0 hl410_0
                  replace p410 := eq_true p410
                  replace q410 := eq_true q410
                  go_wp2
                  go_loopg [21] k1 (fun kq v21 w' => ∃ (x3_2 : List (List Int)) (x21_2 : Int), v21 = .int .i64 x21_2 ∧ Aside0 (impl_turn.l1 kq x3_2 l0 (l0.length : Int) x15_1 (rd_L2 l0 x15_1) ((rd_L2 l0 x15_1).length : Int) x21_2 = some r) ∧ Aside0 (kq ≤ k1) ∧ Aside0 (Kd.S (Kd.slice 3 (Kd.int .i64)) 24 w' w.heap.size (fun _ => True) v408 x3_2) ∧ Aside0 (Below w.heap.size w w'))
                  case atStart => exact ⟨(x3_1), (0), (by first | rfl | (simp; done) | (simp [*]; done)), H', ⟨Nat.le_refl _⟩, ⟨by (with_reducible repeat (first | apply Kd.S_alloc | apply Kd.S_drewN | apply Kd.S_drew)); exact HO_3.out⟩, ⟨by repeat (first | (with_reducible first | exact HB.out | apply below_alloc | apply pw_below_drewN | apply below_drew1) | exact HB.out)⟩⟩
                  case round =>
                    clear H'
                    try clear c1
                    try clear c2
                    try clear c2b0
                    try clear c2b1
                    try clear p2
                    try clear c3
                    try clear c3b0
                    try clear c3b1
                    try clear c4
                    try clear c4b0
                    try clear c4b1
                    try clear p4
                    try clear q4
                    try clear hx4
                    try clear qi4
                    try clear c7
                    try clear c7b0
                    try clear c8
                    try clear c8b0
                    try clear c9
                    try clear c9b0
                    try clear hx406_0
                    try clear hx410_0
                    try clear p2
                    try clear p4
                    try clear p406
                    try clear p410
                    try clear q4
                    try clear q406
                    try clear q410
                    obtain ⟨x3_2, x21_2, rfl, HA, HK2, HO_3, HB⟩ := hrel
                    cases gk with
                    | zero => exact absurd HA.out (by simp [impl_turn.l1])
                    | succ k2 =>
                      have H := HA.out
                      clear HA
                      simp only [impl_turn.l1] at H
                      by_cases c10 : x21_2 < ((rd_L2 l0 x15_1).length : Int)
                      · rw [if_pos c10] at H
                        have c10b0 : decide (x21_2 < ((rd_L2 l0 x15_1).length : Int)) = true := decide_eq_true c10
                        clear c10
                        by_cases c11 : 0 ≤ x21_2
                        · rw [if_pos c11] at H
                          have c11b0 : decide (0 ≤ x21_2) = true := decide_eq_true c11
                          clear c11
                          by_cases c12 : x21_2 < ((rd_L2 l0 x15_1).length : Int)
                          · rw [if_pos c12] at H
                            have c12b0 : decide (x21_2 < ((rd_L2 l0 x15_1).length : Int)) = true := decide_eq_true c12
                            clear c12
                            by_cases c13 : x21_2 < (x3_2.length : Int)
                            · rw [if_pos c13] at H
                              have c13b0 : decide (x21_2 < (x3_2.length : Int)) = true := decide_eq_true c13
                              clear c13
                              by_cases c14 : (rd_L2 x3_2 x21_2).length < 17592186044416
                              · rw [if_pos c14] at H
                                have LMc14 := Aside0.mk c14
                                clear c14
                                obtain ⟨y413, hy413⟩ : ∃ y_ : List Int, y_ = ((rd_L2 x3_2 x21_2) ++ [rd (rd_L2 l0 x15_1) x21_2]) := ⟨_, rfl⟩
                                replace H : (impl_turn.l1 k2 (x3_2.set (x21_2 : Int).toNat y413) l0 (l0.length : Int) x15_1 (rd_L2 l0 x15_1) ((rd_L2 l0 x15_1).length : Int) (wrap64 (x21_2 + 1))) = some r := by first | (rw [hy413]; with_reducible exact H) | (have H2_ := (Option.bind_some _ _).symm.trans H; rw [hy413]; with_reducible exact H2_) | (have H2_ := (Option.bind_some _ _).symm.trans H; with_reducible exact H2_) | with_reducible exact H | (rw [hy413]; exact H) | exact H
                                have Ny413 := Aside0.mk hy413
                                clear hy413
                                obtain ⟨y416, hy416⟩ : ∃ y_ : List (List Int), y_ = (x3_2.set (x21_2 : Int).toNat y413) := ⟨_, rfl⟩
                                replace H : (impl_turn.l1 k2 y416 l0 (l0.length : Int) x15_1 (rd_L2 l0 x15_1) ((rd_L2 l0 x15_1).length : Int) (wrap64 (x21_2 + 1))) = some r := by first | (rw [hy416]; with_reducible exact H) | (have H2_ := (Option.bind_some _ _).symm.trans H; rw [hy416]; with_reducible exact H2_) | (have H2_ := (Option.bind_some _ _).symm.trans H; with_reducible exact H2_) | with_reducible exact H | (rw [hy416]; exact H) | exact H
                                have Ny416 := Aside0.mk hy416
                                clear hy416
                                have H' := Aside0.mk H
                                clear H
                                have p411 : 0 ≤ (x21_2 : Int) := of_decide_eq_true (by first | (with_reducible assumption) | assumption)
                                have q411 : x21_2 < ((rd_L2 l0 x15_1).length : Int) := of_decide_eq_true (by first | (with_reducible assumption) | assumption)
                                obtain ⟨ad411, e411, hx411_0⟩ := Kd.at_int HR410_0.out x21_2 p411 q411
                                cases e411
                                replace hx411_0 := (HB.out.cell (World.block_lt_of_cell? w _ hx411_0)).trans hx411_0
                                replace p411 := eq_true p411
                                replace q411 := eq_true q411
                                obtain ⟨Ao16, co16, eo16⟩ := Kd.S_slice HO_3.out
                                subst eo16
                                have p412 : 0 ≤ (x21_2 : Int) := of_decide_eq_true (by first | (with_reducible assumption) | assumption)
                                have q412 : x21_2 < (x3_2.length : Int) := of_decide_eq_true (by first | (with_reducible assumption) | assumption)
                                obtain ⟨ad412, A412_0, c412_0, e412, hx412_0, hl412_0, hi412_0⟩ := at_L2 (Kd.S_reads' HO_3.out).2.2 x21_2 p412 q412
                                cases e412
                                obtain ⟨ce412, hce412, hMe412, hcc412⟩ := Kd.S_get HO_3.out [] x21_2 p412 (by first | exact q412 | exact of_decide_eq_true (by first | (with_reducible assumption) | assumption) | (have e_ := (Kd.S_reads' HO_3.out).1; omega))
                                obtain ⟨ve412_0, rfl, ge412_0⟩ := hMe412
                                have hv412_0 := hcc412 0 _ rfl
                                rw [Nat.add_zero, show ((Kd.slice 3 (Kd.int .i64))).sz = 1 from rfl, Nat.mul_one] at hv412_0
                                replace hv412_0 := Option.some.inj (hv412_0.symm.trans hx412_0)
                                rw [hv412_0] at ge412_0
                                have HL412_0 := Aside0.mk (show Kd.R (Kd.int .i64) 3 _ _ _ _ (rd_L2 x3_2 x21_2) from ge412_0)
                                clear hv412_0 ge412_0
                                have HX412_0 := Aside0.mk hx412_0
                                clear hcc412 hce412
                                have HR412_0 := Aside0.mk hi412_0
                                have HC412_0 := Aside0.mk hl412_0
                                clear hi412_0 hl412_0
                                replace p412 := eq_true p412
                                replace q412 := eq_true q412
                                obtain ⟨go17, co17, eo17, gb17, gl17, cl17, HG17⟩ := Kd.S_form HO_3.out (by have h_ : (x21_2 : Int) < ((x3_2.length : Int) : Int) := of_decide_eq_true (by first | (with_reducible assumption) | assumption); have h2_ : 0 ≤ (x21_2 : Int) := (of_decide_eq_true (by first | (with_reducible assumption) | assumption)); omega)
                                (first | cases eo17 | (injection eo17 with ea_ en_ ec_; (first | subst ea_ | (injection ea_ with ea_; subst ea_)); subst ec_; clear en_))
                                have GB17 := Aside0.mk gb17
                                have GG17 := Aside0.mk HG17
                                clear gb17 gl17 HG17
                                (first | simp only [add_plain] at hx412_0 | skip)
                                obtain ⟨oki17, ce17, hcl17, hM17, hcc17, _, _, hH17⟩ := Kd.S_elem HO_3.out [] (x21_2 : Int) (of_decide_eq_true (by first | (with_reducible assumption) | assumption)) (by have h_ : (x21_2 : Int) < ((x3_2.length : Int) : Int) := of_decide_eq_true (by first | (with_reducible assumption) | assumption); first | exact h_ | (have e_ := (Kd.S_reads' HO_3.out).1; omega) | simpa using h_)
                                obtain ⟨ve17_0, rfl, ge17_0⟩ := hM17
                                have hv17 := hcc17 0 _ rfl
                                have hX17 := HX412_0.out
                                (try simp only [add_plain] at hX17)
                                (try simp only [Nat.add_zero] at hv17)
                                (try rw [show ((Kd.slice 3 (Kd.int .i64))).sz = 1 from rfl, Nat.mul_one] at hv17)
                                replace hv17 := Option.some.inj (hv17.symm.trans hX17)
                                subst hv17
                                clear hX17 hcc17 hcl17
                                have UU17 := Aside0.mk (show Kd.R (Kd.int .i64) 3 _ w.heap.size oki17 (.slice A412_0 (rd_L2 x3_2 x21_2).length c412_0) (rd_L2 x3_2 x21_2) from ge17_0)
                                have HH17 := Aside0.mk hH17
                                have HN17 := Aside0.mk (Kd.S_reads' HO_3.out).1
                                clear hH17 ge17_0
                                go_wp2_with (first | ((with_reducible refine gate_builtin (b := .append) (xs := #[.tmp 31, .tmp 33]) rfl ?_); at_builtin; refine Kd.R_append (Kd.int .i64) (w0 := w) w.heap.size rfl (.tmp 31) (.tmp 33) 24 3 (.int .i64 0) 8 rfl Try.underlying24 info3 rfl (by decide) (by omega) (.slice A412_0 (rd_L2 x3_2 x21_2).length c412_0) (rd_L2 x3_2 x21_2) (rd (rd_L2 l0 x15_1) x21_2) [.int .i64 (rd (rd_L2 l0 x15_1) x21_2)] (fun k_ => oki17 k_ ∨ ((fun _ => True)) k_ ∧ wr.heap.size ≤ k_) (fun _ => False) rfl rfl ?aP (fun _ hk => hk.elim) ?aF ?aO ?aB ?aS ?aL ?_; (case aP => exact rfl); (case aB => exact (by repeat (first | (with_reducible first | exact HB.out | apply below_alloc | apply pw_below_drewN | apply below_drew1) | exact HB.out))); (case aF => exact (fun k_ hk => .inr ⟨trivial, hk⟩)); (case aO => exact (by (with_reducible repeat (first | apply Kd.R_alloc | apply Kd.R_drewN | apply Kd.R_drew)); exact Kd.R_mono UU17.out (fun _ hk => .inl hk))); (case aS => exact (below_size (by repeat (first | (with_reducible first | exact HB.out | apply below_alloc | apply pw_below_drewN | apply below_drew1) | exact HB.out)))); (case aL => have := LMc14.out; omega); intro v414 w18 ho hb hg hat; rw [← Ny413.out] at ho; have n0_ := Aside0.mk (hb); have n1_ := Aside0.mk (Kd.H_grown (Kd.H_widen (by repeat (first | exact HH17.out | refine Kd.H_alloc ?_ _ | refine Kd.H_drewN ?_ _ | refine Kd.H_drew ?_))) hg (fun k_ e_ => .inl (UU17.out.1 k_ e_))); have n2_ := Aside0.mk (ho); clear HB; clear HH17; clear HO_3; clear UU17; clear HL412_0; have HB := n0_; have HH17 := n1_; have HO415 := n2_; clear n0_ n1_ n2_; clear ho hb hg hat; have p15 : 0 ≤ (x21_2 : Int) := of_decide_eq_true (by first | (with_reducible assumption) | assumption); have q15 : (x21_2 : Int) < ((x3_2.length : Int) : Int) := of_decide_eq_true (by first | (with_reducible assumption) | assumption); replace p15 := eq_true p15; replace q15 := eq_true q15; obtain ⟨Ao21, co21, eo21⟩ := Kd.R_slice HO415.out; subst eo21; obtain ⟨_, _, hraw19, _, _, hcc19, _⟩ := Kd.H_raw HH17.out (of_decide_eq_true (by first | (with_reducible assumption) | assumption)) (by have h_ : (x21_2 : Int) < ((x3_2.length : Int) : Int) := of_decide_eq_true (by first | (with_reducible assumption) | assumption); first | exact h_ | (have e_ := (HN17.out); omega) | simpa using h_); obtain ⟨_, hfr19⟩ := Kd.H_at HH17.out (of_decide_eq_true (by first | (with_reducible assumption) | assumption)) (by have h_ : (x21_2 : Int) < ((x3_2.length : Int) : Int) := of_decide_eq_true (by first | (with_reducible assumption) | assumption); first | exact h_ | (have e_ := (HN17.out); omega) | simpa using h_); have hx19_0 := hcc19 0 _ rfl; have hf19_0 := hfr19 0; (try simp only [Nat.add_zero] at hx19_0 hf19_0); (try rw [show ((Kd.slice 3 (Kd.int .i64))).sz = 1 from rfl, Nat.mul_one] at hx19_0); (try rw [show ((Kd.slice 3 (Kd.int .i64))).sz = 1 from rfl, Nat.mul_one] at hf19_0); have HP19 := Kd.S_seg0 HH17.out (of_decide_eq_true (by first | (with_reducible assumption) | assumption)) (by have h_ : (x21_2 : Int) < ((x3_2.length : Int) : Int) := of_decide_eq_true (by first | (with_reducible assumption) | assumption); first | exact h_ | (have e_ := (HN17.out); omega) | simpa using h_) (seg := [.slice Ao21 y413.length co21]) (j := 0) (show 1 ≤ 1 from by decide) (x' := y413) (Kd.M_row HO415.out) (fun _ hk => hk); (try simp only [show ((Kd.slice 3 (Kd.int .i64))).sz = 1 from rfl, Nat.mul_one, Nat.add_zero] at HP19); clear hcc19 hfr19) | ((with_reducible refine gate_store (t := 24) (p := 35) rfl ?_); refine store_event (t := 24) (p := 35) (v := ?vo_w20) (w1 := (w18.setCell ⟨go17, (x21_2 : Int).toNat, none⟩ (.slice Ao21 y413.length co21))) ?hg ?ho ?hn ?hr ?_; (case ho => rfl); (case hg => rfl); (case hn => rfl); (case hr => first | (go_simp; done) | (go_simp; rfl)); intro w20 hw; have hg : w18.grownBy w20 (some go17) := (by rw [hw]; exact HP19.2); have hp_ : Kd.S (Kd.slice 3 (Kd.int .i64)) 24 w20 w.heap.size (fun _ => True) (.slice (some ⟨go17, 0, none⟩) x3_2.length co16) y416 := (by rw [hw, Ny416.out]; exact HP19.1); clear HP19; have n0_ := Aside0.mk ((by rw [hw]; exact below_set HB.out GB17.out : Below w.heap.size w w20)); have n1_ := Aside0.mk (hp_); clear HB; clear HO415; clear HH17; have HB := n0_; have HO_3 := n1_; clear n0_ n1_; clear hg hw hp_ hraw19))
                                go_roundg k2
                                case measure => have := HK1.out; have := HK2.out; omega
                                case rel => exact ⟨(y416), (wrap64 (x21_2 + 1)), (by first | rfl | (simp; done) | (simp [*]; done)), H', ⟨by have := HK1.out; have := HK2.out; omega⟩, ⟨by (with_reducible repeat (first | apply Kd.S_alloc | apply Kd.S_drewN | apply Kd.S_drew)); exact HO_3.out⟩, ⟨by repeat (first | (with_reducible first | exact HB.out | apply below_alloc | apply pw_below_drewN | apply below_drew1) | exact HB.out)⟩⟩
                              · rw [if_neg c14] at H
                                exact absurd H (by simp)
                            · rw [if_neg c13] at H
                              exact absurd H (by simp)
                          · rw [if_neg c12] at H
                            exact absurd H (by simp)
                        · rw [if_neg c11] at H
                          exact absurd H (by simp)
                      · rw [if_neg c10] at H
                        have c10b0 : decide (x21_2 < ((rd_L2 l0 x15_1).length : Int)) = false := decide_eq_false c10
                        clear c10
                        have H' := Aside0.mk H
                        clear H
                        go_wp2
                        go_roundg k2
                        case measure => have := HK1.out; have := HK2.out; omega
                        case rel => exact ⟨(x3_2), (wrap64 (x15_1 + 1)), (by first | rfl | (simp; done) | (simp [*]; done)), H', ⟨by have := HK1.out; have := HK2.out; omega⟩, ⟨by (with_reducible repeat (first | apply Kd.S_alloc | apply Kd.S_drewN | apply Kd.S_drew)); exact HO_3.out⟩, ⟨by repeat (first | (with_reducible first | exact HB.out | apply below_alloc | apply pw_below_drewN | apply below_drew1) | exact HB.out)⟩⟩
                · rw [if_neg c9] at H
                  exact absurd H (by simp)
              · rw [if_neg c8] at H
                exact absurd H (by simp)
            · rw [if_neg c7] at H
              have c7b0 : decide (x15_1 < (l0.length : Int)) = false := decide_eq_false c7
              clear c7
              obtain rfl := Option.some.inj H
              go_wp2
              go_ret
              exact ⟨_, by first | rfl | (simp [errW_none, errW_some] <;> rfl) | (simp [*, errW_none, errW_some] <;> rfl), by (with_reducible repeat (first | apply Kd.S_alloc | apply Kd.S_drewN | apply Kd.S_drew)); exact HO_3.out, by repeat (first | (with_reducible first | exact HB.out | apply below_alloc | apply pw_below_drewN | apply below_drew1) | exact HB.out)⟩
      · rw [if_neg c4] at H
        exact absurd H (by simp)
    · rw [if_neg c3] at H
      exact absurd H (by simp)
  · rw [if_neg c2] at H
    exact absurd H (by simp)

end Go.Proofs.Ytllnieknogficaa.K
namespace Go.Proofs.Ytllnieknogficaa.K
open Go.RowKit Go.Proofs.YtllnieknogficaaW.PrintWords Go.Proofs.YtllnieknogficaaW.PrintLast Go.Proofs.YtllnieknogficaaW.PrintMore
attribute [local go_sem] max2_int min2_int max_two min_two max_three min_three max_four min_four   -- for this text's walks alone
set_option linter.unusedVariables false
set_option linter.unusedSimpArgs false

/-! ### impl_TurnPlan: function 37 -/
def impl_TurnPlan.f (k : Nat) (l0 : List (List Int)) : Option ((List (List Int)) × Bool) := (impl_isPlan.f l0).bind fun t417 => (if t417 = true then ((impl_turn.f k l0).bind fun t418 => (some (t418, true))) else (some (([] : List (List Int)), false)))
theorem impl_TurnPlan.mono : ∀ a0 k, LeO (impl_TurnPlan.f k a0) (impl_TurnPlan.f (k + 1) a0) := by
  intro a0 k
  unfold impl_TurnPlan.f
  repeat' first
      | (with_reducible exact impl_turn.mono _ _)
      | (with_reducible exact LeO.refl _)
      | (with_reducible exact LeO.none _)
      | (with_reducible refine LeO.ite ?_ ?_)
      | (with_reducible refine LeO.bind ?_ (fun _ => ?_))
      | exact impl_turn.mono _ _
      | exact LeO.none _
      | refine LeO.ite ?_ ?_
      | refine LeO.bind ?_ (fun _ => ?_)
set_option maxHeartbeats 8000000 in
set_option maxRecDepth 100000 in
theorem impl_TurnPlan.calls (k : Nat) (A0 : Option Addr) (c0 : Nat) (l0 : List (List Int)) (r1 : List (List Int)) (r2 : Bool) (w : World) (hr0 : Kd.C (Kd.slice 3 (Kd.int .i64)) w A0 l0.length l0) (hc0 : l0.length ≤ c0) (h : impl_TurnPlan.f k l0 = some (r1, r2)) :
    Calls Try.prog 37 #[.slice A0 l0.length c0] w fun e w' => ∃ v0_ : Value, e = .returned (.tuple #[v0_, .bool r2]) ∧ Kd.S (Kd.slice 3 (Kd.int .i64)) 24 w' w.heap.size (fun _ => True) v0_ r1 ∧ Below w.heap.size w w' := by
  have HR0 := Aside0.mk hr0
  have HC0 := Aside0.mk hc0
  clear hr0 hc0
  have HB := Aside0.mk (Below.refl w.heap.size w)
  have H : ((impl_isPlan.f l0).bind fun t417 => (if t417 = true then ((impl_turn.f k l0).bind fun t418 => (some (t418, true))) else (some (([] : List (List Int)), false)))) = some (r1, r2) := h
  clear h
  replace H := Option.bind_eq_some_iff.mp H
  obtain ⟨t417, A20, H⟩ := H
  replace H : (if t417 = true then ((impl_turn.f k l0).bind fun t418 => (some (t418, true))) else (some (([] : List (List Int)), false))) = some (r1, r2) := H
  have A2 := Aside0.mk A20
  clear A20
  by_cases c3 : t417 = true
  · subst c3
    have H1 : ((impl_turn.f k l0).bind fun t418 => (some (t418, true))) = some (r1, r2) := by rw [if_pos rfl] at H; exact H
    clear H
    have H := H1
    clear H1
    replace H := Option.bind_eq_some_iff.mp H
    obtain ⟨t418, A40, H⟩ := H
    replace H : (some (t418, true)) = some (r1, r2) := H
    have A4 := Aside0.mk A40
    clear A40
    simp only [Option.some.injEq, Prod.mk.injEq] at H
    obtain ⟨rfl, rfl⟩ := H
    go_enter Try.func37, Try.ntmps37
    go_wp2_with (first | ((with_reducible refine gate_callee (f := 118) rfl ?_); refine goesL_ (some 5) rfl rfl Try.func118 (by kernel_rfl) rfl #[.slice A0 l0.length c0] rfl (by (try simp only [List.map_toArray, List.map_cons, List.map_nil]); first | done | rfl | (simp only [List.length_drop, List.length_take]; rfl)) ?_; (with_reducible refine (impl_isPlan.calls _ _ l0 true _ ?side1 ?side2 A2.out).mono ?_); (case side1 => repeat (first | exact HR0.out | (with_reducible refine Kd.C_alloc ?_ _) | (with_reducible refine Kd.C_drewN ?_ _) | (with_reducible refine Kd.C_drew ?_))); (case side2 => exact HC0.out); rintro e w5 ⟨rfl, hb⟩; refine ⟨_, rfl, ?_⟩; have n0_ := Aside0.mk (below_step (by repeat (first | (with_reducible first | exact HB.out | apply below_alloc | apply pw_below_drewN | apply below_drew1) | exact HB.out)) hb); clear HB; have HB := n0_; clear n0_; (try clear hb); (try clear hb2); (try clear hk); (try clear hi)) | ((with_reducible refine gate_callee (f := 127) rfl ?_); refine goesL_ (some 8) rfl rfl Try.func127 (by kernel_rfl) rfl #[.slice A0 l0.length c0] rfl (by (try simp only [List.map_toArray, List.map_cons, List.map_nil]); first | done | rfl | (simp only [List.length_drop, List.length_take]; rfl)) ?_; (with_reducible refine (impl_turn.calls k _ _ l0 t418 _ ?side1 ?side2 A4.out).mono ?_); (case side1 => repeat (first | exact (Kd.C_below HR0.out HB.out) | (with_reducible refine Kd.C_alloc ?_ _) | (with_reducible refine Kd.C_drewN ?_ _) | (with_reducible refine Kd.C_drew ?_))); (case side2 => exact HC0.out); rintro e w6 ⟨v419, rfl, ho0, hb⟩; refine ⟨_, rfl, ?_⟩; have n0_ := Aside0.mk (Kd.S_lower ho0 (below_size (by repeat (first | (with_reducible first | exact HB.out | apply below_alloc | apply pw_below_drewN | apply below_drew1) | exact HB.out)))); have n1_ := Aside0.mk (below_step (by repeat (first | (with_reducible first | exact HB.out | apply below_alloc | apply pw_below_drewN | apply below_drew1) | exact HB.out)) hb); clear HB; have HO420 := n0_; have HB := n1_; clear n0_ n1_; (try clear hb); (try clear hb2); (try clear hk); (try clear hi); (try clear ho0)))
    go_ret2
    exact ⟨_, by first | rfl | (simp [errW_none, errW_some] <;> rfl) | (simp [*, errW_none, errW_some] <;> rfl), by (with_reducible repeat (first | apply Kd.S_alloc | apply Kd.S_drewN | apply Kd.S_drew)); exact HO420.out, by repeat (first | (with_reducible first | exact HB.out | apply below_alloc | apply pw_below_drewN | apply below_drew1) | exact HB.out)⟩
  · replace c3 := Bool.eq_false_iff.mpr c3
    subst c3
    have H1 : (some (([] : List (List Int)), false)) = some (r1, r2) := by rw [if_neg (show ¬ (false = true) by decide)] at H; exact H
    clear H
    have H := H1
    clear H1
    simp only [Option.some.injEq, Prod.mk.injEq] at H
    obtain ⟨rfl, rfl⟩ := H
    go_enter Try.func37, Try.ntmps37
    go_wp2_with (first | ((with_reducible refine gate_callee (f := 118) rfl ?_); refine goesL_ (some 5) rfl rfl Try.func118 (by kernel_rfl) rfl #[.slice A0 l0.length c0] rfl (by (try simp only [List.map_toArray, List.map_cons, List.map_nil]); first | done | rfl | (simp only [List.length_drop, List.length_take]; rfl)) ?_; (with_reducible refine (impl_isPlan.calls _ _ l0 false _ ?side1 ?side2 A2.out).mono ?_); (case side1 => repeat (first | exact HR0.out | (with_reducible refine Kd.C_alloc ?_ _) | (with_reducible refine Kd.C_drewN ?_ _) | (with_reducible refine Kd.C_drew ?_))); (case side2 => exact HC0.out); rintro e w7 ⟨rfl, hb⟩; refine ⟨_, rfl, ?_⟩; have n0_ := Aside0.mk (below_step (by repeat (first | (with_reducible first | exact HB.out | apply below_alloc | apply pw_below_drewN | apply below_drew1) | exact HB.out)) hb); clear HB; have HB := n0_; clear n0_; (try clear hb); (try clear hb2); (try clear hk); (try clear hi)))
    go_ret2
    exact ⟨_, by first | rfl | (simp [errW_none, errW_some] <;> rfl) | (simp [*, errW_none, errW_some] <;> rfl), by first | exact Kd.S_nil _ _ _ _ _ | exact Kd.N_nil _ _ _ _ _ | exact Kd.V_nil _ _ _ _ _ | exact Kd.Q_nil _ _ _ _ _ | exact Kd.R_nil _ _ _ _ _, by repeat (first | (with_reducible first | exact HB.out | apply below_alloc | apply pw_below_drewN | apply below_drew1) | exact HB.out)⟩

end Go.Proofs.Ytllnieknogficaa.K
namespace Go.Proofs.Ytllnieknogficaa.K
open Go.RowKit Go.Proofs.YtllnieknogficaaW.PrintWords Go.Proofs.YtllnieknogficaaW.PrintLast Go.Proofs.YtllnieknogficaaW.PrintMore
attribute [local go_sem] max2_int min2_int max_two min_two max_three min_three max_four min_four   -- for this text's walks alone
set_option linter.unusedVariables false
set_option linter.unusedSimpArgs false

/-! ### spec_plColumn: function 126 -/
def spec_plColumn.l0 : Nat → Int → List Int → List (List Int) → Int → Int → Option (List Int)
  | 0, _, _, _, _, _ => none
  | k + 1, x1, x5, x8, x9, x10 => if x10 < x9 then (if 0 ≤ x10 then (if x10 < (x8.length : Int) then (if 0 ≤ x1 then (if x1 < ((rd_L2 x8 x10).length : Int) then (if x5.length < 17592186044416 then (spec_plColumn.l0 k x1 (x5 ++ [rd (rd_L2 x8 x10) x1]) x8 x9 (wrap64 (x10 + 1))) else (none)) else (none)) else (none)) else (none)) else (none)) else (some x5)
def spec_plColumn.f (k : Nat) (l0 : List (List Int)) (a1 : Int) : Option (List Int) := spec_plColumn.l0 k a1 ([] : List Int) l0 (l0.length : Int) 0
theorem spec_plColumn.mono_l : ∀ k, (∀ y0 y1 y2 y3 y4, LeO (spec_plColumn.l0 k y0 y1 y2 y3 y4) (spec_plColumn.l0 (k + 1) y0 y1 y2 y3 y4))
  | 0 => fun _ _ _ _ _ r h => by simp [spec_plColumn.l0] at h
  | k + 1 => by
    have ih0 := spec_plColumn.mono_l k
    · intro y0 y1 y2 y3 y4
      unfold spec_plColumn.l0
      repeat' first
      | (with_reducible exact ih0 _ _ _ _ _)
      | (with_reducible exact LeO.refl _)
      | (with_reducible exact LeO.none _)
      | (with_reducible refine LeO.ite ?_ ?_)
      | (with_reducible refine LeO.bind ?_ (fun _ => ?_))
      | exact ih0 _ _ _ _ _
      | exact LeO.none _
      | refine LeO.ite ?_ ?_
      | refine LeO.bind ?_ (fun _ => ?_)
theorem spec_plColumn.mono : ∀ a0 a1 k, LeO (spec_plColumn.f k a0 a1) (spec_plColumn.f (k + 1) a0 a1) := by
  intro a0 a1 k
  have ih0 := spec_plColumn.mono_l k
  unfold spec_plColumn.f
  repeat' first
      | (with_reducible exact ih0 _ _ _ _ _)
      | (with_reducible exact LeO.refl _)
      | (with_reducible exact LeO.none _)
      | (with_reducible refine LeO.ite ?_ ?_)
      | (with_reducible refine LeO.bind ?_ (fun _ => ?_))
      | exact ih0 _ _ _ _ _
      | exact LeO.none _
      | refine LeO.ite ?_ ?_
      | refine LeO.bind ?_ (fun _ => ?_)
set_option maxHeartbeats 8000000 in
set_option maxRecDepth 100000 in
theorem spec_plColumn.calls (k : Nat) (A0 : Option Addr) (c0 : Nat) (l0 : List (List Int)) (a1 : Int) (r : List Int) (w : World) (hr0 : Kd.C (Kd.slice 3 (Kd.int .i64)) w A0 l0.length l0) (hc0 : l0.length ≤ c0) (h : spec_plColumn.f k l0 a1 = some r) :
    Calls Try.prog 126 #[.slice A0 l0.length c0, .int .i64 a1] w fun e w' => ∃ v0_ : Value, e = .returned (v0_) ∧ Kd.R (Kd.int .i64) 3 w' w.heap.size (fun _ => True) v0_ r ∧ Below w.heap.size w w' := by
  have HR0 := Aside0.mk hr0
  have HC0 := Aside0.mk hc0
  clear hr0 hc0
  have HB := Aside0.mk (Below.refl w.heap.size w)
  have H : (spec_plColumn.l0 k a1 ([] : List Int) l0 (l0.length : Int) 0) = some r := h
  clear h
  have H' := Aside0.mk H
  clear H
  go_enter Try.func126, Try.ntmps126
  go_wp2
  go_loopg [5, 10] k (fun kq v5 v10 w' => ∃ (x5_1 : List Int) (x10_1 : Int), v10 = .int .i64 x10_1 ∧ Aside0 (spec_plColumn.l0 kq a1 x5_1 l0 (l0.length : Int) x10_1 = some r) ∧ Aside0 (kq ≤ k) ∧ Aside0 (Kd.R (Kd.int .i64) 3 w' w.heap.size (fun _ => True) v5 x5_1) ∧ Aside0 (Below w.heap.size w w'))
  case atStart => exact ⟨(([] : List Int)), (0), (by first | rfl | (simp; done) | (simp [*]; done)), H', ⟨Nat.le_refl _⟩, ⟨by first | exact Kd.R_nil _ _ _ _ _ | exact Kd.N_nil _ _ _ _ _ | exact Kd.V_nil _ _ _ _ _ | exact Kd.Q_nil _ _ _ _ _ | exact Kd.S_nil _ _ _ _ _⟩, ⟨by repeat (first | (with_reducible first | exact HB.out | apply below_alloc | apply pw_below_drewN | apply below_drew1) | exact HB.out)⟩⟩
  case round =>
    clear H'
    try clear c1
    try clear p2
    obtain ⟨x5_1, x10_1, rfl, HA, HK1, HO_5, HB⟩ := hrel
    cases gk with
    | zero => exact absurd HA.out (by simp [spec_plColumn.l0])
    | succ k1 =>
      have H := HA.out
      clear HA
      simp only [spec_plColumn.l0] at H
      by_cases c3 : x10_1 < (l0.length : Int)
      · rw [if_pos c3] at H
        have c3b0 : decide (x10_1 < (l0.length : Int)) = true := decide_eq_true c3
        clear c3
        by_cases c4 : 0 ≤ x10_1
        · rw [if_pos c4] at H
          have c4b0 : decide (0 ≤ x10_1) = true := decide_eq_true c4
          clear c4
          by_cases c5 : x10_1 < (l0.length : Int)
          · rw [if_pos c5] at H
            have c5b0 : decide (x10_1 < (l0.length : Int)) = true := decide_eq_true c5
            clear c5
            by_cases c6 : 0 ≤ a1
            · rw [if_pos c6] at H
              have c6b0 : decide (0 ≤ a1) = true := decide_eq_true c6
              clear c6
              by_cases c7 : a1 < ((rd_L2 l0 x10_1).length : Int)
              · rw [if_pos c7] at H
                have c7b0 : decide (a1 < ((rd_L2 l0 x10_1).length : Int)) = true := decide_eq_true c7
                clear c7
                by_cases c8 : x5_1.length < 17592186044416
                · rw [if_pos c8] at H
                  have LMc8 := Aside0.mk c8
                  clear c8
                  obtain ⟨y383, hy383⟩ : ∃ y_ : List Int, y_ = (x5_1 ++ [rd (rd_L2 l0 x10_1) a1]) := ⟨_, rfl⟩
                  replace H : (spec_plColumn.l0 k1 a1 y383 l0 (l0.length : Int) (wrap64 (x10_1 + 1))) = some r := by first | (rw [hy383]; with_reducible exact H) | (have H2_ := (Option.bind_some _ _).symm.trans H; rw [hy383]; with_reducible exact H2_) | (have H2_ := (Option.bind_some _ _).symm.trans H; with_reducible exact H2_) | with_reducible exact H | (rw [hy383]; exact H) | exact H
                  have Ny383 := Aside0.mk hy383
                  clear hy383
                  have H' := Aside0.mk H
                  clear H
                  have p381 : 0 ≤ (x10_1 : Int) := of_decide_eq_true (by first | (with_reducible assumption) | assumption)
                  have q381 : x10_1 < (l0.length : Int) := of_decide_eq_true (by first | (with_reducible assumption) | assumption)
                  obtain ⟨ad381, A381_0, c381_0, e381, hx381_0, hl381_0, hi381_0⟩ := at_L2 HR0.out x10_1 p381 q381
                  cases e381
                  replace hx381_0 := (HB.out.cell (World.block_lt_of_cell? w _ hx381_0)).trans hx381_0
                  have HR381_0 := Aside0.mk hi381_0
                  have HC381_0 := Aside0.mk hl381_0
                  clear hi381_0 hl381_0
                  replace p381 := eq_true p381
                  replace q381 := eq_true q381
                  have p382 : 0 ≤ (a1 : Int) := of_decide_eq_true (by first | (with_reducible assumption) | assumption)
                  have q382 : a1 < ((rd_L2 l0 x10_1).length : Int) := of_decide_eq_true (by first | (with_reducible assumption) | assumption)
                  obtain ⟨ad382, e382, hx382_0⟩ := Kd.at_int HR381_0.out a1 p382 q382
                  cases e382
                  replace hx382_0 := (HB.out.cell (World.block_lt_of_cell? w _ hx382_0)).trans hx382_0
                  replace p382 := eq_true p382
                  replace q382 := eq_true q382
                  go_wp2_with (first | ((with_reducible refine gate_builtin (b := .append) (xs := #[.tmp 14, .tmp 19]) rfl ?_); at_builtin; refine Kd.R_append (Kd.int .i64) (w0 := w) w.heap.size rfl (.tmp 14) (.tmp 19) 24 3 (.int .i64 0) 8 rfl Try.underlying24 info3 rfl (by decide) (by omega) u5 x5_1 (rd (rd_L2 l0 x10_1) a1) [.int .i64 (rd (rd_L2 l0 x10_1) a1)] (fun _ => True) (fun _ => False) rfl rfl ?aP (fun _ hk => hk.elim) ?aF ?aO ?aB ?aS ?aL ?_; (case aP => exact rfl); (case aB => exact (by repeat (first | (with_reducible first | exact HB.out | apply below_alloc | apply pw_below_drewN | apply below_drew1) | exact HB.out))); (case aF => exact (fun _ _ => trivial)); (case aO => exact (by (with_reducible repeat (first | apply Kd.R_alloc | apply Kd.R_drewN | apply Kd.R_drew)); exact HO_5.out)); (case aS => exact (below_size (by repeat (first | (with_reducible first | exact HB.out | apply below_alloc | apply pw_below_drewN | apply below_drew1) | exact HB.out)))); (case aL => have := LMc8.out; omega); intro v384 w9 ho hb hg hat; rw [← Ny383.out] at ho; have n0_ := Aside0.mk (hb); have n1_ := Aside0.mk (ho); clear HB; clear HO_5; have HB := n0_; have HO385 := n1_; clear n0_ n1_; clear ho hb hg hat))
                  go_roundg k1
                  case measure => have := HK1.out; omega
                  case rel => exact ⟨(y383), (wrap64 (x10_1 + 1)), (by first | rfl | (simp; done) | (simp [*]; done)), H', ⟨by have := HK1.out; omega⟩, ⟨by (with_reducible repeat (first | apply Kd.R_alloc | apply Kd.R_drewN | apply Kd.R_drew)); exact HO385.out⟩, ⟨by repeat (first | (with_reducible first | exact HB.out | apply below_alloc | apply pw_below_drewN | apply below_drew1) | exact HB.out)⟩⟩
                · rw [if_neg c8] at H
                  exact absurd H (by simp)
              · rw [if_neg c7] at H
                exact absurd H (by simp)
            · rw [if_neg c6] at H
              exact absurd H (by simp)
          · rw [if_neg c5] at H
            exact absurd H (by simp)
        · rw [if_neg c4] at H
          exact absurd H (by simp)
      · rw [if_neg c3] at H
        have c3b0 : decide (x10_1 < (l0.length : Int)) = false := decide_eq_false c3
        clear c3
        obtain rfl := Option.some.inj H
        go_wp2
        go_ret
        exact ⟨_, by first | rfl | (simp [errW_none, errW_some] <;> rfl) | (simp [*, errW_none, errW_some] <;> rfl), by (with_reducible repeat (first | apply Kd.R_alloc | apply Kd.R_drewN | apply Kd.R_drew)); exact HO_5.out, by repeat (first | (with_reducible first | exact HB.out | apply below_alloc | apply pw_below_drewN | apply below_drew1) | exact HB.out)⟩

end Go.Proofs.Ytllnieknogficaa.K
namespace Go.Proofs.Ytllnieknogficaa.K
open Go.RowKit Go.Proofs.YtllnieknogficaaW.PrintWords Go.Proofs.YtllnieknogficaaW.PrintLast Go.Proofs.YtllnieknogficaaW.PrintMore
attribute [local go_sem] max2_int min2_int max_two min_two max_three min_three max_four min_four   -- for this text's walks alone
set_option linter.unusedVariables false
set_option linter.unusedSimpArgs false

/-! ### spec_TurnPlan: function 35 -/
def spec_TurnPlan.l0 : Nat → List (List Int) → List (List Int) → Int → Int → Option ((List (List Int)) × Bool)
  | 0, _, _, _, _ => none
  | k + 1, x0, x4, x10, x11 => if x11 < x10 then ((spec_plColumn.f k x0 x11).bind fun t387 => (if x4.length < 5864062014805 then (spec_TurnPlan.l0 k x0 (x4 ++ [t387]) x10 (wrap64 (x11 + 1))) else (none))) else (some (x4, true))
def spec_TurnPlan.f (k : Nat) (l0 : List (List Int)) : Option ((List (List Int)) × Bool) := (spec_plGood.f k l0).bind fun t386 => (if t386 = true then (spec_TurnPlan.l0 k l0 ([] : List (List Int)) (l0.length : Int) 0) else (some (([] : List (List Int)), false)))
theorem spec_TurnPlan.mono_l : ∀ k, (∀ y0 y1 y2 y3, LeO (spec_TurnPlan.l0 k y0 y1 y2 y3) (spec_TurnPlan.l0 (k + 1) y0 y1 y2 y3))
  | 0 => fun _ _ _ _ r h => by simp [spec_TurnPlan.l0] at h
  | k + 1 => by
    have ih0 := spec_TurnPlan.mono_l k
    · intro y0 y1 y2 y3
      unfold spec_TurnPlan.l0
      repeat' first
      | (with_reducible exact ih0 _ _ _ _)
      | (with_reducible exact spec_plColumn.mono _ _ _)
      | (with_reducible exact spec_plGood.mono _ _)
      | (with_reducible exact LeO.refl _)
      | (with_reducible exact LeO.none _)
      | (with_reducible refine LeO.ite ?_ ?_)
      | (with_reducible refine LeO.bind ?_ (fun _ => ?_))
      | exact ih0 _ _ _ _
      | exact spec_plColumn.mono _ _ _
      | exact spec_plGood.mono _ _
      | exact LeO.none _
      | refine LeO.ite ?_ ?_
      | refine LeO.bind ?_ (fun _ => ?_)
theorem spec_TurnPlan.mono : ∀ a0 k, LeO (spec_TurnPlan.f k a0) (spec_TurnPlan.f (k + 1) a0) := by
  intro a0 k
  have ih0 := spec_TurnPlan.mono_l k
  unfold spec_TurnPlan.f
  repeat' first
      | (with_reducible exact ih0 _ _ _ _)
      | (with_reducible exact spec_plColumn.mono _ _ _)
      | (with_reducible exact spec_plGood.mono _ _)
      | (with_reducible exact LeO.refl _)
      | (with_reducible exact LeO.none _)
      | (with_reducible refine LeO.ite ?_ ?_)
      | (with_reducible refine LeO.bind ?_ (fun _ => ?_))
      | exact ih0 _ _ _ _
      | exact spec_plColumn.mono _ _ _
      | exact spec_plGood.mono _ _
      | exact LeO.none _
      | refine LeO.ite ?_ ?_
      | refine LeO.bind ?_ (fun _ => ?_)
set_option maxHeartbeats 8000000 in
set_option maxRecDepth 100000 in
theorem spec_TurnPlan.calls (k : Nat) (A0 : Option Addr) (c0 : Nat) (l0 : List (List Int)) (r1 : List (List Int)) (r2 : Bool) (w : World) (hr0 : Kd.C (Kd.slice 3 (Kd.int .i64)) w A0 l0.length l0) (hc0 : l0.length ≤ c0) (h : spec_TurnPlan.f k l0 = some (r1, r2)) :
    Calls Try.prog 35 #[.slice A0 l0.length c0] w fun e w' => ∃ v0_ : Value, e = .returned (.tuple #[v0_, .bool r2]) ∧ Kd.S (Kd.slice 3 (Kd.int .i64)) 24 w' w.heap.size (fun _ => True) v0_ r1 ∧ Below w.heap.size w w' := by
  have HR0 := Aside0.mk hr0
  have HC0 := Aside0.mk hc0
  clear hr0 hc0
  have HB := Aside0.mk (Below.refl w.heap.size w)
  have H : ((spec_plGood.f k l0).bind fun t386 => (if t386 = true then (spec_TurnPlan.l0 k l0 ([] : List (List Int)) (l0.length : Int) 0) else (some (([] : List (List Int)), false)))) = some (r1, r2) := h
  clear h
  replace H := Option.bind_eq_some_iff.mp H
  obtain ⟨t386, A20, H⟩ := H
  replace H : (if t386 = true then (spec_TurnPlan.l0 k l0 ([] : List (List Int)) (l0.length : Int) 0) else (some (([] : List (List Int)), false))) = some (r1, r2) := H
  have A2 := Aside0.mk A20
  clear A20
  by_cases c3 : t386 = true
  · subst c3
    have H1 : (spec_TurnPlan.l0 k l0 ([] : List (List Int)) (l0.length : Int) 0) = some (r1, r2) := by rw [if_pos rfl] at H; exact H
    clear H
    have H := H1
    clear H1
    have H' := Aside0.mk H
    clear H
    go_enter Try.func35, Try.ntmps35
    go_wp2_with (first | ((with_reducible refine gate_callee (f := 125) rfl ?_); refine goesL_ (some 7) rfl rfl Try.func125 (by kernel_rfl) rfl #[.slice A0 l0.length c0] rfl (by (try simp only [List.map_toArray, List.map_cons, List.map_nil]); first | done | rfl | (simp only [List.length_drop, List.length_take]; rfl)) ?_; (with_reducible refine (spec_plGood.calls k _ _ l0 true _ ?side1 ?side2 A2.out).mono ?_); (case side1 => repeat (first | exact HR0.out | (with_reducible refine Kd.C_alloc ?_ _) | (with_reducible refine Kd.C_drewN ?_ _) | (with_reducible refine Kd.C_drew ?_))); (case side2 => exact HC0.out); rintro e w' ⟨rfl, ⟨nd, rfl⟩⟩; refine ⟨_, rfl, ?_⟩))
    go_loopg [4, 11] k (fun kq v4 v11 w' => ∃ (x4_1 : List (List Int)) (x11_1 : Int), v11 = .int .i64 x11_1 ∧ Aside0 (spec_TurnPlan.l0 kq l0 x4_1 (l0.length : Int) x11_1 = some (r1, r2)) ∧ Aside0 (kq ≤ k) ∧ Aside0 (Kd.S (Kd.slice 3 (Kd.int .i64)) 24 w' w.heap.size (fun _ => True) v4 x4_1) ∧ Aside0 (Below w.heap.size w w'))
    case atStart => exact ⟨(([] : List (List Int))), (0), (by first | rfl | (simp; done) | (simp [*]; done)), H', ⟨Nat.le_refl _⟩, ⟨by first | exact Kd.S_nil _ _ _ _ _ | exact Kd.N_nil _ _ _ _ _ | exact Kd.V_nil _ _ _ _ _ | exact Kd.Q_nil _ _ _ _ _ | exact Kd.R_nil _ _ _ _ _⟩, ⟨by repeat (first | (with_reducible first | exact HB.out | apply below_alloc | apply pw_below_drewN | apply below_drew1) | exact HB.out)⟩⟩
    case round =>
      clear H'
      try clear c1
      try clear p2
      try clear c3
      obtain ⟨x4_1, x11_1, rfl, HA, HK1, HO_4, HB⟩ := hrel
      cases gk with
      | zero => exact absurd HA.out (by simp [spec_TurnPlan.l0])
      | succ k1 =>
        have H := HA.out
        clear HA
        simp only [spec_TurnPlan.l0] at H
        by_cases c4 : x11_1 < (l0.length : Int)
        · rw [if_pos c4] at H
          have c4b0 : decide (x11_1 < (l0.length : Int)) = true := decide_eq_true c4
          clear c4
          replace H := Option.bind_eq_some_iff.mp H
          obtain ⟨t387, A50, H⟩ := H
          replace H : (if x4_1.length < 5864062014805 then (spec_TurnPlan.l0 k1 l0 (x4_1 ++ [t387]) (l0.length : Int) (wrap64 (x11_1 + 1))) else (none)) = some (r1, r2) := H
          have A5 := Aside0.mk A50
          clear A50
          by_cases c6 : x4_1.length < 5864062014805
          · rw [if_pos c6] at H
            have LMc6 := Aside0.mk c6
            clear c6
            obtain ⟨y390, hy390⟩ : ∃ y_ : List (List Int), y_ = (x4_1 ++ [t387]) := ⟨_, rfl⟩
            replace H : (spec_TurnPlan.l0 k1 l0 y390 (l0.length : Int) (wrap64 (x11_1 + 1))) = some (r1, r2) := by first | (rw [hy390]; with_reducible exact H) | (have H2_ := (Option.bind_some _ _).symm.trans H; rw [hy390]; with_reducible exact H2_) | (have H2_ := (Option.bind_some _ _).symm.trans H; with_reducible exact H2_) | with_reducible exact H | (rw [hy390]; exact H) | exact H
            have Ny390 := Aside0.mk hy390
            clear hy390
            have H' := Aside0.mk H
            clear H
            go_wp2_with (first | ((with_reducible refine gate_callee (f := 126) rfl ?_); refine goesL_ (some 17) rfl rfl Try.func126 (by kernel_rfl) rfl #[.slice A0 l0.length c0, .int .i64 x11_1] rfl (by (try simp only [List.map_toArray, List.map_cons, List.map_nil]); first | done | rfl | (simp only [List.length_drop, List.length_take]; rfl)) ?_; (with_reducible refine (spec_plColumn.calls k1 _ _ l0 x11_1 t387 _ ?side1 ?side2 A5.out).mono ?_); (case side1 => repeat (first | exact (Kd.C_below HR0.out HB.out) | (with_reducible refine Kd.C_alloc ?_ _) | (with_reducible refine Kd.C_drewN ?_ _) | (with_reducible refine Kd.C_drew ?_))); (case side2 => exact HC0.out); rintro e w7 ⟨v388, rfl, ho0, hb⟩; refine ⟨_, rfl, ?_⟩; have n0_ := Aside0.mk (Kd.S_elder' (by (with_reducible repeat (first | apply Kd.S_alloc | apply Kd.S_drewN | apply Kd.S_drew)); exact HO_4.out) (Kd.R_base ho0) hb); have n1_ := Aside0.mk (Kd.R_lower ho0 (below_size (by repeat (first | (with_reducible first | exact HB.out | apply below_alloc | apply pw_below_drewN | apply below_drew1) | exact HB.out)))); have n2_ := Aside0.mk (below_step (by repeat (first | (with_reducible first | exact HB.out | apply below_alloc | apply pw_below_drewN | apply below_drew1) | exact HB.out)) hb); clear HO_4; clear HB; have HO_4 := n0_; have HO389 := n1_; have HB := n2_; clear n0_ n1_ n2_; (try clear hb); (try clear hb2); (try clear hk); (try clear hi); (try clear ho0); obtain ⟨Ao9, co9, eo9⟩ := Kd.R_slice HO389.out; subst eo9) | ((with_reducible refine gate_builtin (b := .append) (xs := #[.tmp 14, .tmp 18]) rfl ?_); at_builtin; refine Kd.S_append (Kd.slice 3 (Kd.int .i64)) (w0 := w) w.heap.size rfl (.tmp 14) (.tmp 18) 37 24 (.slice none 0 0) 24 rfl Try.underlying37 info24 rfl (by decide) (by omega) u4 x4_1 t387 [.slice Ao9 t387.length co9] (fun _ => True) (fun k_ => some k_ = (.slice Ao9 t387.length co9 : Value).ownBlock) rfl rfl ?aP (fun k_ hk_ => ((Kd.R_mono (ok' := fun k_ => ((fun _ => True)) k_ ∧ some k_ ≠ (u4 : Value).ownBlock) (Kd.R_apart' (HO389.out) (Kd.S_typed HO_4.out) (by decide)) (fun k_ hk => ⟨trivial, hk.2⟩))).1 k_ hk_.symm) ?aF ?aO ?aB ?aS ?aL ?_; (case aP => exact Kd.M_row (Kd.R_mono (Kd.R_tight rfl (Kd.R_mono (ok' := fun k_ => ((fun _ => True)) k_ ∧ some k_ ≠ (u4 : Value).ownBlock) (Kd.R_apart' (HO389.out) (Kd.S_typed HO_4.out) (by decide)) (fun k_ hk => ⟨trivial, hk.2⟩))) (fun _ h_ => h_))); (case aB => exact (by repeat (first | (with_reducible first | exact HB.out | apply below_alloc | apply pw_below_drewN | apply below_drew1) | exact HB.out))); (case aF => exact (fun _ _ => trivial)); (case aO => exact (by (with_reducible repeat (first | apply Kd.S_alloc | apply Kd.S_drewN | apply Kd.S_drew)); exact Kd.S_mono HO_4.out (fun k_ hk => ⟨trivial, fun e_ => hk.2 e_⟩))); (case aS => exact (below_size (by repeat (first | (with_reducible first | exact HB.out | apply below_alloc | apply pw_below_drewN | apply below_drew1) | exact HB.out)))); (case aL => have := LMc6.out; omega); intro v391 w8 ho hb hg hat; rw [← Ny390.out] at ho; have n0_ := Aside0.mk (hb); have n1_ := Aside0.mk (ho); clear HB; clear HO_4; clear HO389; have HB := n0_; have HO392 := n1_; clear n0_ n1_; clear ho hb hg hat))
            go_roundg k1
            case measure => have := HK1.out; omega
            case rel => exact ⟨(y390), (wrap64 (x11_1 + 1)), (by first | rfl | (simp; done) | (simp [*]; done)), H', ⟨by have := HK1.out; omega⟩, ⟨by (with_reducible repeat (first | apply Kd.S_alloc | apply Kd.S_drewN | apply Kd.S_drew)); exact HO392.out⟩, ⟨by repeat (first | (with_reducible first | exact HB.out | apply below_alloc | apply pw_below_drewN | apply below_drew1) | exact HB.out)⟩⟩
          · rw [if_neg c6] at H
            exact absurd H (by simp)
        · rw [if_neg c4] at H
          have c4b0 : decide (x11_1 < (l0.length : Int)) = false := decide_eq_false c4
          clear c4
          simp only [Option.some.injEq, Prod.mk.injEq] at H
          obtain ⟨rfl, rfl⟩ := H
          go_wp2
          go_ret2
          exact ⟨_, by first | rfl | (simp [errW_none, errW_some] <;> rfl) | (simp [*, errW_none, errW_some] <;> rfl), by (with_reducible repeat (first | apply Kd.S_alloc | apply Kd.S_drewN | apply Kd.S_drew)); exact HO_4.out, by repeat (first | (with_reducible first | exact HB.out | apply below_alloc | apply pw_below_drewN | apply below_drew1) | exact HB.out)⟩
  · replace c3 := Bool.eq_false_iff.mpr c3
    subst c3
    have H1 : (some (([] : List (List Int)), false)) = some (r1, r2) := by rw [if_neg (show ¬ (false = true) by decide)] at H; exact H
    clear H
    have H := H1
    clear H1
    simp only [Option.some.injEq, Prod.mk.injEq] at H
    obtain ⟨rfl, rfl⟩ := H
    go_enter Try.func35, Try.ntmps35
    go_wp2_with (first | ((with_reducible refine gate_callee (f := 125) rfl ?_); refine goesL_ (some 7) rfl rfl Try.func125 (by kernel_rfl) rfl #[.slice A0 l0.length c0] rfl (by (try simp only [List.map_toArray, List.map_cons, List.map_nil]); first | done | rfl | (simp only [List.length_drop, List.length_take]; rfl)) ?_; (with_reducible refine (spec_plGood.calls k _ _ l0 false _ ?side1 ?side2 A2.out).mono ?_); (case side1 => repeat (first | exact HR0.out | (with_reducible refine Kd.C_alloc ?_ _) | (with_reducible refine Kd.C_drewN ?_ _) | (with_reducible refine Kd.C_drew ?_))); (case side2 => exact HC0.out); rintro e w' ⟨rfl, ⟨nd, rfl⟩⟩; refine ⟨_, rfl, ?_⟩))
    go_ret2
    exact ⟨_, by first | rfl | (simp [errW_none, errW_some] <;> rfl) | (simp [*, errW_none, errW_some] <;> rfl), by first | exact Kd.S_nil _ _ _ _ _ | exact Kd.N_nil _ _ _ _ _ | exact Kd.V_nil _ _ _ _ _ | exact Kd.Q_nil _ _ _ _ _ | exact Kd.R_nil _ _ _ _ _, by repeat (first | (with_reducible first | exact HB.out | apply below_alloc | apply pw_below_drewN | apply below_drew1) | exact HB.out)⟩

end Go.Proofs.Ytllnieknogficaa.K
namespace Go.Proofs.Ytllnieknogficaa.K
open Go.RowKit Go.Proofs.YtllnieknogficaaW.PrintWords Go.Proofs.YtllnieknogficaaW.PrintLast Go.Proofs.YtllnieknogficaaW.PrintMore
attribute [local go_sem] max2_int min2_int max_two min_two max_three min_three max_four min_four   -- for this text's walks alone
set_option linter.unusedVariables false
set_option linter.unusedSimpArgs false
theorem colOf_succ (l : List (List Int)) (i j : Nat) (h : i < l.length) (hj : j < l[i].length) : colOf (l.take i) j ++ [l[i][j]] = colOf (l.take (i + 1)) j := by
  unfold colOf
  rw [List.take_succ_eq_append_getElem h, List.map_append, List.map_cons, List.map_nil, List.getD_eq_getElem?_getD, List.getElem?_eq_getElem hj]
  rfl
theorem plColumn_l0 (l : List (List Int)) (j : Nat) (hl : l.length ≤ 1048576) (hj : ∀ r ∈ l, j < r.length ∧ r.length ≤ 1048576) : ∀ d (i : Nat), i ≤ l.length → l.length - i = d →
    Ev (fun k => spec_plColumn.l0 k (j : Int) (colOf (l.take i) j) l (l.length : Int) (i : Int)) (colOf l j) := by
  intro d
  induction d with
  | zero =>
    intro i hi hd
    have : i = l.length := by omega
    subst this
    refine ev_succ ?_
    simp only [spec_plColumn.l0, if_neg (Int.lt_irrefl _), List.take_length]
    exact ev_now _ _ rfl
  | succ d ih =>
    intro i hi hd
    have hlt : i < l.length := by omega
    have hm := hj l[i] (List.getElem_mem hlt)
    have h1 : (i : Int) < (l.length : Int) := by omega
    have h2 : (0 : Int) ≤ (i : Int) := by omega
    have h3 : (0 : Int) ≤ (j : Int) := by omega
    have h4 : (j : Int) < (l[i].length : Int) := by omega
    have h5 : (colOf (l.take i) j).length < 17592186044416 := by rw [colOf_length, List.length_take]; omega
    refine ev_succ ?_
    simp only [spec_plColumn.l0, if_pos h1, if_pos h2, rdL_nat l i hlt, if_pos h3, if_pos h4, if_pos h5, rd_nat l[i] j hm.1, wrap64_nat_succ (show i < 9223372036854775807 by omega)]
    rw [colOf_succ l i j hlt hm.1]
    exact ih (i + 1) (by omega) (by omega)
theorem plColumn_ev (l : List (List Int)) (j : Nat) (hl : l.length ≤ 1048576) (hj : ∀ r ∈ l, j < r.length ∧ r.length ≤ 1048576) : Ev (fun k => spec_plColumn.f k l (j : Int)) (colOf l j) := by
  unfold spec_plColumn.f
  have := plColumn_l0 l j hl hj l.length 0 (by omega) (by omega)
  simpa [colOf] using this
theorem specTurn_l0 (l : List (List Int)) (hl : l.length ≤ 8) (hr : ∀ r ∈ l, r.length = l.length) : ∀ d (i : Nat), i ≤ l.length → l.length - i = d →
    Ev (fun k => spec_TurnPlan.l0 k l ((List.range i).map (colOf l)) (l.length : Int) (i : Int)) (turned l, true) := by
  intro d
  induction d with
  | zero =>
    intro i hi hd
    have : i = l.length := by omega
    subst this
    refine ev_succ ?_
    simp only [spec_TurnPlan.l0, if_neg (Int.lt_irrefl _)]
    exact ev_now _ _ rfl
  | succ d ih =>
    intro i hi hd
    have hlt : i < l.length := by omega
    have h1 : (i : Int) < (l.length : Int) := by omega
    have h5 : ((List.range i).map (colOf l)).length < 5864062014805 := by rw [List.length_map, List.length_range]; omega
    refine ev_succ ?_
    simp only [spec_TurnPlan.l0, if_pos h1, if_pos h5, wrap64_nat_succ (show i < 9223372036854775807 by omega)]
    refine Ev.bind (plColumn_ev l i (by omega) fun r hm => by have := hr r hm; omega) ?_
    have h6 : (List.range i).map (colOf l) ++ [colOf l i] = (List.range (i + 1)).map (colOf l) := by rw [List.range_succ, List.map_append]; rfl
    rw [h6]
    exact ih (i + 1) (by omega) (by omega)
theorem specTurnPlan_ev (l : List (List Int)) : Ev (fun k => spec_TurnPlan.f k l) (if planB l = true then (turned l, true) else ([], false)) := by
  unfold spec_TurnPlan.f
  refine Ev.bind (plGood_ev l) ?_
  cases h : planB l with
  | false => exact ev_now _ _ rfl
  | true =>
    obtain ⟨h1, h2, h3⟩ := (planB_iff l).1 h
    simp only [if_true]
    have := specTurn_l0 l h2 (fun r hr => (h3 r hr).1) l.length 0 (by omega) (by omega)
    simpa using this
/-- The table when row i has gone up to column j. -/
def turnAt (l : List (List Int)) (n i j : Nat) : List (List Int) := (List.range n).map fun q => if q < j then colOf (l.take (i + 1)) q else colOf (l.take i) q
theorem turnAt_length (l : List (List Int)) (n i j : Nat) : (turnAt l n i j).length = n := by simp [turnAt]
theorem turnAt_end (l : List (List Int)) (n i : Nat) : turnAt l n i n = turnAt l n (i + 1) 0 := by
  unfold turnAt
  refine List.map_congr_left fun q hq => ?_
  rw [if_pos (List.mem_range.1 hq), if_neg (by omega)]
theorem turnAt_step (l : List (List Int)) (n i j : Nat) (hi : i < l.length) (hj : j < n) (hr : j < l[i].length) : (turnAt l n i j).set j ((turnAt l n i j)[j]'(by rw [turnAt_length]; exact hj) ++ [l[i][j]]) = turnAt l n i (j + 1) := by
  refine List.ext_getElem (by simp [turnAt_length]) fun q h1 h2 => ?_
  rw [turnAt_length] at h2
  rw [List.getElem_set]
  split
  · rename_i he
    subst he
    simp only [turnAt, List.getElem_map, List.getElem_range, if_neg (Nat.lt_irrefl _), if_pos (Nat.lt_succ_self _)]
    exact colOf_succ l i j hi hr
  · rename_i he
    simp only [turnAt, List.getElem_map, List.getElem_range]
    by_cases hq : q < j
    · rw [if_pos hq, if_pos (by omega)]
    · rw [if_neg hq, if_neg (by omega)]
theorem implTurn_l1 (l : List (List Int)) (n i : Nat) (hn : n ≤ 8) (hl : l.length ≤ 8) (hi : i < l.length) (hr : l[i].length = n) (r : List (List Int)) (hnext : Ev (fun k => impl_turn.l0 k (turnAt l n (i + 1) 0) l (l.length : Int) ((i + 1 : Nat) : Int)) r) : ∀ d (j : Nat), j ≤ n → n - j = d →
    Ev (fun k => impl_turn.l1 k (turnAt l n i j) l (l.length : Int) (i : Int) l[i] (l[i].length : Int) (j : Int)) r := by
  intro d
  induction d with
  | zero =>
    intro j hj hd
    have : j = n := by omega
    subst this
    refine ev_succ ?_
    simp only [impl_turn.l1, hr, if_neg (Int.lt_irrefl _), wrap64_nat_succ (show i < 9223372036854775807 by omega)]
    rw [turnAt_end]
    exact hnext
  | succ d ih =>
    intro j hj hd
    have hjn : j < n := by omega
    have h1 : (j : Int) < (l[i].length : Int) := by omega
    have h2 : (0 : Int) ≤ (j : Int) := by omega
    have h3 : (j : Int) < ((turnAt l n i j).length : Int) := by rw [turnAt_length]; omega
    have hjt : j < (turnAt l n i j).length := by rw [turnAt_length]; exact hjn
    have h4 : ((turnAt l n i j)[j]).length < 17592186044416 := by
      simp only [turnAt, List.getElem_map, List.getElem_range, if_neg (Nat.lt_irrefl _), colOf_length, List.length_take]; omega
    refine ev_succ ?_
    simp only [impl_turn.l1, if_pos h1, if_pos h2, if_pos h3, rdL_nat _ j hjt, if_pos h4, Int.toNat_natCast, rd_nat l[i] j (show j < l[i].length by omega), wrap64_nat_succ (show j < 9223372036854775807 by omega), turnAt_step l n i j hi hjn (show j < l[i].length by omega)]
    exact ih (j + 1) (by omega) (by omega)
theorem implTurn_l0 (l : List (List Int)) (n : Nat) (hn : n ≤ 8) (hl : l.length ≤ 8) (hr : ∀ r ∈ l, r.length = n) : ∀ d (i : Nat), i ≤ l.length → l.length - i = d →
    Ev (fun k => impl_turn.l0 k (turnAt l n i 0) l (l.length : Int) (i : Int)) ((List.range n).map (colOf l)) := by
  intro d
  induction d with
  | zero =>
    intro i hi hd
    have : i = l.length := by omega
    subst this
    refine ev_succ ?_
    simp only [impl_turn.l0, if_neg (Int.lt_irrefl _)]
    refine ev_now _ _ ?_
    unfold turnAt
    refine List.map_congr_left fun q _ => ?_
    rw [if_neg (by omega), List.take_length]
  | succ d ih =>
    intro i hi hd
    have hlt : i < l.length := by omega
    have h1 : (i : Int) < (l.length : Int) := by omega
    have h2 : (0 : Int) ≤ (i : Int) := by omega
    refine ev_succ ?_
    simp only [impl_turn.l0, if_pos h1, if_pos h2, rdL_nat l i hlt]
    exact implTurn_l1 l n i hn hl hlt (hr _ (List.getElem_mem hlt)) _ (ih (i + 1) (by omega) (by omega)) n 0 (by omega) (by omega)
theorem implTurn_ev (l : List (List Int)) (n : Nat) (h0 : 0 < l.length) (hn : n ≤ 8) (hl : l.length ≤ 8) (hr : ∀ r ∈ l, r.length = n) : Ev (fun k => impl_turn.f k l) ((List.range n).map (colOf l)) := by
  unfold impl_turn.f
  have h1 : (0 : Int) < (l.length : Int) := by omega
  have hz : rd_L2 l 0 = l[0] := rdL_nat l 0 h0
  have h2 : (0 : Int) ≤ ((rd_L2 l 0).length : Int) := by omega
  have hl0 : (rd_L2 l 0).length = n := by rw [hz]; exact hr _ (List.getElem_mem h0)
  have h3 : n ≤ 11728124029610 := by omega
  simp only [if_pos h1, if_pos h2, hl0, Int.toNat_natCast, if_pos h3]
  have := implTurn_l0 l n hn hl hr l.length 0 (by omega) (by omega)
  have h4 : turnAt l n 0 0 = List.replicate n [] := by
    refine List.ext_getElem (by simp [turnAt_length]) fun q _ _ => ?_
    simp [turnAt, colOf]
  rw [h4] at this
  exact this
theorem implTurnPlan_ev (l : List (List Int)) : Ev (fun k => impl_TurnPlan.f k l) (if planB l = true then (turned l, true) else ([], false)) := by
  unfold impl_TurnPlan.f
  rw [isPlan_f]
  simp only [Option.bind_some]
  cases h : planB l with
  | false => exact ev_now _ _ rfl
  | true =>
    obtain ⟨h1, h2, h3⟩ := (planB_iff l).1 h
    simp only [if_true]
    exact Ev.bind (implTurn_ev l l.length (by omega) h2 h2 (fun r hr => (h3 r hr).1)) (ev_now _ _ rfl)
theorem tot_le_mul (n : Nat) (l : List (List Int)) (h : ∀ r ∈ l, r.length ≤ n) : laws_markIntSS.tot l ≤ l.length * n := by
  induction l with
  | nil => simp [laws_markIntSS.tot]
  | cons r t ih =>
    have h1 := h r (List.mem_cons_self ..)
    have h2 := ih (fun r hr => h r (List.mem_cons_of_mem _ hr))
    simp only [laws_markIntSS.tot, List.length_cons, Nat.succ_mul]
    omega
theorem plan_small (l : List (List Int)) (h : planB l = true) : l.length ≤ 8 ∧ (∀ r ∈ l, r.length ≤ 1099511627776) ∧ laws_markIntSS.tot l ≤ 1048576 := by
  obtain ⟨h1, h2, h3⟩ := (planB_iff l).1 h
  have := tot_le_mul 8 l (fun r hr => by rw [(h3 r hr).1]; exact h2)
  exact ⟨h2, fun r hr => by have := (h3 r hr).1; omega, by omega⟩
end Go.Proofs.Ytllnieknogficaa.K
namespace Go.Proofs.Ytllnieknogficaa.K
open Go.RowKit Go.Proofs.YtllnieknogficaaW.PrintWords Go.Proofs.YtllnieknogficaaW.PrintLast Go.Proofs.YtllnieknogficaaW.PrintMore
attribute [local go_sem] max2_int min2_int max_two min_two max_three min_three max_four min_four   -- for this text's walks alone
set_option linter.unusedVariables false
set_option linter.unusedSimpArgs false
set_option maxHeartbeats 4000000 in
set_option maxRecDepth 100000 in
theorem FnExactTurnPlan_walk (A0 : Option Addr) (c0 : Nat) (l0 : List (List Int)) (w : World) (hr0 : Kd.C (Kd.slice 3 (Kd.int .i64)) w A0 l0.length l0) (hc0 : l0.length ≤ c0) (hrow : ∀ r ∈ l0, r.length ≤ 9223372036854775807) :
    Calls Try.prog 4 #[.slice A0 l0.length c0] w fun e w' => e = .returned (.bool true) ∧ Below w.heap.size w w' := by
  obtain ⟨s, hE, hp, hq⟩ := szIntSS_ev l0 1048576 (by omega) (by omega) (Kd.C_max hr0) hrow
  obtain ⟨ks, hS⟩ := hE.rounds
  have HS := Aside0.mk hS
  have HR := Aside0.mk hr0
  have HC := Aside0.mk hc0
  clear hS hE hr0 hc0 hrow
  by_cases hs : 0 ≤ s
  · have hsz := hp hs
    have hrows : ∀ r ∈ l0, r.length ≤ 1099511627776 := fun r hr => by have := row_le_tot l0 r hr; omega
    obtain ⟨kt, hT⟩ := (toIntSS_ev l0 (by omega) hrows).rounds
    obtain ⟨kw, hW⟩ := (specTurnPlan_ev l0).rounds
    obtain ⟨kg, hG⟩ := (implTurnPlan_ev l0).rounds
    obtain ⟨R, b, hRb⟩ : ∃ R b, (if planB l0 = true then (turned l0, true) else ([], false)) = (R, b) := ⟨_, _, rfl⟩
    have hRl : R.length ≤ 8 ∧ (∀ r ∈ R, r.length ≤ 1099511627776) ∧ laws_markIntSS.tot R ≤ 1048576 := by
      cases hp : planB l0 with
      | false => rw [hp] at hRb; simp at hRb; obtain ⟨rfl, rfl⟩ := hRb; simp [laws_markIntSS.tot]
      | true =>
        rw [hp] at hRb; simp at hRb; obtain ⟨rfl, rfl⟩ := hRb
        exact plan_small _ (turned_plan l0 hp)
    rw [hRb] at hW hG
    obtain ⟨ke, hE1⟩ := (eqIntSS_ev R (by omega) hRl.2.1).rounds
    obtain ⟨kx, hE2⟩ := (eqIntSS_ev l0 (by omega) hrows).rounds
    obtain ⟨kh, hH⟩ := (heldIntSS_ev 1 R (by omega) (by omega) (by omega)).rounds
    have htR : 1 + (laws_markIntSS.tot R : Int) ≤ 4611686018427387904 := by omega
    have htL : 1 + (laws_markIntSS.tot l0 : Int) ≤ 4611686018427387904 := by omega
    have h0R : 0 ≤ 1 + (laws_markIntSS.tot R : Int) := by omega
    have h0L : 0 ≤ 1 + (laws_markIntSS.tot l0 : Int) := by omega
    have HT := Aside0.mk hT
    have HW := Aside0.mk hW
    have HG := Aside0.mk hG
    have HE1 := Aside0.mk hE1
    have HE2 := Aside0.mk hE2
    have HH := Aside0.mk hH
    have Tx0 := Aside0.mk htL
    have Tg0 := Aside0.mk htR
    have HB := Aside0.mk (Below.refl w.heap.size w)
    clear hT hW hG hE1 hE2 hH htR htL hRl hRb hrows hsz hp hq
    go_enter Try.func4, Try.ntmps4
    go_wp2_with fail
    refine (laws_szIntSS.calls ks _ _ l0 1048576 s _ (Kd.C_below HR.out HB.out) HC.out HS.out).mono ?_
    rintro e w1 ⟨rfl, hd⟩
    have hb := hd.below; clear hd
    have n_ := Aside0.mk (below_step HB.out hb); have z_ := Aside0.mk hb.size; clear HB; have HB := n_; clear n_; have HZ1 := z_; clear z_
    clear hb
    go_wp2_with fail
    refine (laws_toIntSS.calls kt _ _ l0 l0 _ (Kd.C_below HR.out HB.out) HC.out HT.out).mono ?_
    rintro e w2 ⟨y0, rfl, ho0, hb⟩
    have OY := Aside0.mk (OwnSS.new ho0 HB.out); clear ho0
    have n_ := Aside0.mk (below_step HB.out hb); have z_ := Aside0.mk hb.size; clear HB; have HB := n_; clear n_; have HZ2 := z_; clear z_
    clear hb
    obtain ⟨Ay0, cy0, e_, l_y0⟩ := OY.out.reads; subst e_; have Ly0 := Aside0.mk l_y0; clear l_y0
    go_wp2_with fail
    refine (spec_TurnPlan.calls kw _ _ l0 R b _ OY.out.c Ly0.out HW.out).mono ?_
    rintro e w3 ⟨v0, rfl, ho0, hb⟩
    have n_ := Aside0.mk (OY.out.step hb); clear OY; have OY := n_; clear n_
    have OW := Aside0.mk (OwnSS.new ho0 HB.out); clear ho0
    have n_ := Aside0.mk (below_step HB.out hb); have z_ := Aside0.mk hb.size; clear HB; have HB := n_; clear n_; have HZ3 := z_; clear z_
    clear hb
    obtain ⟨Av0, cv0, e_, l_v0⟩ := OW.out.reads; subst e_; have Lv0 := Aside0.mk l_v0; clear l_v0
    go_wp2_with fail
    refine (laws_toIntSS.calls kt _ _ l0 l0 _ (Kd.C_below HR.out HB.out) HC.out HT.out).mono ?_
    rintro e w4 ⟨x0, rfl, ho0, hb⟩
    have n_ := Aside0.mk (OY.out.step hb); clear OY; have OY := n_; clear n_
    have n_ := Aside0.mk (OW.out.step hb); clear OW; have OW := n_; clear n_
    have OX := Aside0.mk (OwnSS.new ho0 HB.out); clear ho0
    have n_ := Aside0.mk (below_step HB.out hb); have z_ := Aside0.mk hb.size; clear HB; have HB := n_; clear n_; have HZ4 := z_; clear z_
    clear hb
    obtain ⟨Ax0, cx0, e_, l_x0⟩ := OX.out.reads; subst e_; have Lx0 := Aside0.mk l_x0; clear l_x0
    go_wp2_with fail
    refine (impl_TurnPlan.calls kg _ _ l0 R b _ OX.out.c Lx0.out HG.out).mono ?_
    rintro e w5 ⟨g0, rfl, ho0, hb⟩
    have n_ := Aside0.mk (OY.out.step hb); clear OY; have OY := n_; clear n_
    have n_ := Aside0.mk (OW.out.step hb); clear OW; have OW := n_; clear n_
    have n_ := Aside0.mk (OX.out.step hb); clear OX; have OX := n_; clear n_
    have OG := Aside0.mk (OwnSS.new ho0 HB.out); clear ho0
    have n_ := Aside0.mk (below_step HB.out hb); have z_ := Aside0.mk hb.size; clear HB; have HB := n_; clear n_; have HZ5 := z_; clear z_
    clear hb
    obtain ⟨Ag0, cg0, e_, l_g0⟩ := OG.out.reads; subst e_; have Lg0 := Aside0.mk l_g0; clear l_g0
    go_wp2_with fail
    refine (laws_eqIntSS.calls ke _ _ R _ _ R true _ OG.out.c Lg0.out OW.out.c Lv0.out HE1.out).mono ?_
    rintro e w6 ⟨rfl, hd⟩
    have hb := hd.below; clear hd
    have n_ := Aside0.mk (OY.out.step hb); clear OY; have OY := n_; clear n_
    have n_ := Aside0.mk (OW.out.step hb); clear OW; have OW := n_; clear n_
    have n_ := Aside0.mk (OX.out.step hb); clear OX; have OX := n_; clear n_
    have n_ := Aside0.mk (OG.out.step hb); clear OG; have OG := n_; clear n_
    have n_ := Aside0.mk (below_step HB.out hb); have z_ := Aside0.mk hb.size; clear HB; have HB := n_; clear n_; have HZ6 := z_; clear z_
    clear hb
    go_wp2_with fail
    refine (laws_toIntSS.calls kt _ _ l0 l0 _ (Kd.C_below HR.out HB.out) HC.out HT.out).mono ?_
    rintro e w7 ⟨z0, rfl, ho0, hb⟩
    have n_ := Aside0.mk (OY.out.step hb); clear OY; have OY := n_; clear n_
    have n_ := Aside0.mk (OW.out.step hb); clear OW; have OW := n_; clear n_
    have n_ := Aside0.mk (OX.out.step hb); clear OX; have OX := n_; clear n_
    have n_ := Aside0.mk (OG.out.step hb); clear OG; have OG := n_; clear n_
    have OZ := Aside0.mk (OwnSS.new ho0 HB.out); clear ho0
    have n_ := Aside0.mk (below_step HB.out hb); have z_ := Aside0.mk hb.size; clear HB; have HB := n_; clear n_; have HZ7 := z_; clear z_
    clear hb
    obtain ⟨Az0, cz0, e_, l_z0⟩ := OZ.out.reads; subst e_; have Lz0 := Aside0.mk l_z0; clear l_z0
    go_wp2_with fail
    refine (laws_eqIntSS.calls kx _ _ l0 _ _ l0 true _ OX.out.c Lx0.out OZ.out.c Lz0.out HE2.out).mono ?_
    rintro e w8 ⟨rfl, hd⟩
    have hb := hd.below; clear hd
    have n_ := Aside0.mk (OY.out.step hb); clear OY; have OY := n_; clear n_
    have n_ := Aside0.mk (OW.out.step hb); clear OW; have OW := n_; clear n_
    have n_ := Aside0.mk (OX.out.step hb); clear OX; have OX := n_; clear n_
    have n_ := Aside0.mk (OG.out.step hb); clear OG; have OG := n_; clear n_
    have n_ := Aside0.mk (OZ.out.step hb); clear OZ; have OZ := n_; clear n_
    have n_ := Aside0.mk (below_step HB.out hb); have z_ := Aside0.mk hb.size; clear HB; have HB := n_; clear n_; have HZ8 := z_; clear z_
    clear hb
    go_wp2_with fail
    refine (laws_markIntSS.calls _ _ l0 1 w _ (by omega) (by have := Tx0.out; omega) HB.out OX.out.s).mono ?_
    rintro e w9 ⟨rfl, hs, hb, hk⟩
    have n_ := Aside0.mk (OY.out.kept hk (fun k h1 h2 h3 => by have := HZ1.out; have := HZ2.out; have := HZ3.out; have := HZ4.out; have := HZ5.out; have := HZ6.out; have := HZ7.out; have := HZ8.out; omega)); clear OY; have OY := n_; clear n_
    have n_ := Aside0.mk (OW.out.kept hk (fun k h1 h2 h3 => by have := HZ1.out; have := HZ2.out; have := HZ3.out; have := HZ4.out; have := HZ5.out; have := HZ6.out; have := HZ7.out; have := HZ8.out; omega)); clear OW; have OW := n_; clear n_
    have n_ := Aside0.mk (OG.out.kept hk (fun k h1 h2 h3 => by have := HZ1.out; have := HZ2.out; have := HZ3.out; have := HZ4.out; have := HZ5.out; have := HZ6.out; have := HZ7.out; have := HZ8.out; omega)); clear OG; have OG := n_; clear n_
    have n_ := Aside0.mk (OZ.out.kept hk (fun k h1 h2 h3 => by have := HZ1.out; have := HZ2.out; have := HZ3.out; have := HZ4.out; have := HZ5.out; have := HZ6.out; have := HZ7.out; have := HZ8.out; omega)); clear OZ; have OZ := n_; clear n_
    have n_ := Aside0.mk (OX.out.done hs hk.1); clear OX; have OX := n_; clear n_
    have z_ := Aside0.mk hk.1; clear HB; have HB := Aside0.mk hb; have HZ9 := z_; clear z_ hs hb hk
    go_wp2_with fail
    refine (laws_eqIntSS.calls ke _ _ R _ _ R true _ OG.out.c Lg0.out OW.out.c Lv0.out HE1.out).mono ?_
    rintro e w10 ⟨rfl, hd⟩
    have hb := hd.below; clear hd
    have n_ := Aside0.mk (OY.out.step hb); clear OY; have OY := n_; clear n_
    have n_ := Aside0.mk (OW.out.step hb); clear OW; have OW := n_; clear n_
    have n_ := Aside0.mk (OX.out.step hb); clear OX; have OX := n_; clear n_
    have n_ := Aside0.mk (OG.out.step hb); clear OG; have OG := n_; clear n_
    have n_ := Aside0.mk (OZ.out.step hb); clear OZ; have OZ := n_; clear n_
    have n_ := Aside0.mk (below_step HB.out hb); have z_ := Aside0.mk hb.size; clear HB; have HB := n_; clear n_; have HZ10 := z_; clear z_
    clear hb
    go_wp2_with fail
    refine (laws_markIntSS.calls _ _ R 1 w _ (by omega) (by have := Tg0.out; omega) HB.out OG.out.s).mono ?_
    rintro e w11 ⟨rfl, hs, hb, hk⟩
    have n_ := Aside0.mk (OY.out.kept hk (fun k h1 h2 h3 => by have := HZ1.out; have := HZ2.out; have := HZ3.out; have := HZ4.out; have := HZ5.out; have := HZ6.out; have := HZ7.out; have := HZ8.out; have := HZ9.out; have := HZ10.out; omega)); clear OY; have OY := n_; clear n_
    have n_ := Aside0.mk (OW.out.kept hk (fun k h1 h2 h3 => by have := HZ1.out; have := HZ2.out; have := HZ3.out; have := HZ4.out; have := HZ5.out; have := HZ6.out; have := HZ7.out; have := HZ8.out; have := HZ9.out; have := HZ10.out; omega)); clear OW; have OW := n_; clear n_
    have n_ := Aside0.mk (OX.out.kept hk (fun k h1 h2 h3 => by have := HZ1.out; have := HZ2.out; have := HZ3.out; have := HZ4.out; have := HZ5.out; have := HZ6.out; have := HZ7.out; have := HZ8.out; have := HZ9.out; have := HZ10.out; omega)); clear OX; have OX := n_; clear n_
    have n_ := Aside0.mk (OZ.out.kept hk (fun k h1 h2 h3 => by have := HZ1.out; have := HZ2.out; have := HZ3.out; have := HZ4.out; have := HZ5.out; have := HZ6.out; have := HZ7.out; have := HZ8.out; have := HZ9.out; have := HZ10.out; omega)); clear OZ; have OZ := n_; clear n_
    have n_ := Aside0.mk (OG.out.done hs hk.1); clear OG; have OG := n_; clear n_
    have z_ := Aside0.mk hk.1; clear HB; have HB := Aside0.mk hb; have HZ11 := z_; clear z_ hs hb hk
    go_wp2_with fail
    refine ((held_at kh _ _ R _ _ HH.out Lg0.out OG.out.c)).mono ?_
    rintro e w12 ⟨rfl, hd⟩
    have hb := hd.below; clear hd
    have n_ := Aside0.mk (OY.out.step hb); clear OY; have OY := n_; clear n_
    have n_ := Aside0.mk (OW.out.step hb); clear OW; have OW := n_; clear n_
    have n_ := Aside0.mk (OX.out.step hb); clear OX; have OX := n_; clear n_
    have n_ := Aside0.mk (OG.out.step hb); clear OG; have OG := n_; clear n_
    have n_ := Aside0.mk (OZ.out.step hb); clear OZ; have OZ := n_; clear n_
    have n_ := Aside0.mk (below_step HB.out hb); have z_ := Aside0.mk hb.size; clear HB; have HB := n_; clear n_; have HZ12 := z_; clear z_
    clear hb
    go_wp2_with fail
    refine (laws_toIntSS.calls kt _ _ l0 l0 _ (Kd.C_below HR.out HB.out) HC.out HT.out).mono ?_
    rintro e w13 ⟨u0, rfl, ho0, hb⟩
    have n_ := Aside0.mk (OY.out.step hb); clear OY; have OY := n_; clear n_
    have n_ := Aside0.mk (OW.out.step hb); clear OW; have OW := n_; clear n_
    have n_ := Aside0.mk (OX.out.step hb); clear OX; have OX := n_; clear n_
    have n_ := Aside0.mk (OG.out.step hb); clear OG; have OG := n_; clear n_
    have n_ := Aside0.mk (OZ.out.step hb); clear OZ; have OZ := n_; clear n_
    have OU := Aside0.mk (OwnSS.new ho0 HB.out); clear ho0
    have n_ := Aside0.mk (below_step HB.out hb); have z_ := Aside0.mk hb.size; clear HB; have HB := n_; clear n_; have HZ13 := z_; clear z_
    clear hb
    obtain ⟨Au0, cu0, e_, l_u0⟩ := OU.out.reads; subst e_; have Lu0 := Aside0.mk l_u0; clear l_u0
    go_wp2_with fail
    refine (impl_TurnPlan.calls kg _ _ l0 R b _ OU.out.c Lu0.out HG.out).mono ?_
    rintro e w14 ⟨t0, rfl, ho0, hb⟩
    have n_ := Aside0.mk (OY.out.step hb); clear OY; have OY := n_; clear n_
    have n_ := Aside0.mk (OW.out.step hb); clear OW; have OW := n_; clear n_
    have n_ := Aside0.mk (OX.out.step hb); clear OX; have OX := n_; clear n_
    have n_ := Aside0.mk (OG.out.step hb); clear OG; have OG := n_; clear n_
    have n_ := Aside0.mk (OZ.out.step hb); clear OZ; have OZ := n_; clear n_
    have n_ := Aside0.mk (OU.out.step hb); clear OU; have OU := n_; clear n_
    have OH := Aside0.mk (OwnSS.new ho0 HB.out); clear ho0
    have n_ := Aside0.mk (below_step HB.out hb); have z_ := Aside0.mk hb.size; clear HB; have HB := n_; clear n_; have HZ14 := z_; clear z_
    clear hb
    obtain ⟨At0, ct0, e_, l_t0⟩ := OH.out.reads; subst e_; have Lt0 := Aside0.mk l_t0; clear l_t0
    go_wp2_with fail
    refine (laws_eqIntSS.calls ke _ _ R _ _ R true _ OH.out.c Lt0.out OW.out.c Lv0.out HE1.out).mono ?_
    rintro e w15 ⟨rfl, hd⟩
    have hb := hd.below; clear hd
    have n_ := Aside0.mk (OY.out.step hb); clear OY; have OY := n_; clear n_
    have n_ := Aside0.mk (OW.out.step hb); clear OW; have OW := n_; clear n_
    have n_ := Aside0.mk (OX.out.step hb); clear OX; have OX := n_; clear n_
    have n_ := Aside0.mk (OG.out.step hb); clear OG; have OG := n_; clear n_
    have n_ := Aside0.mk (OZ.out.step hb); clear OZ; have OZ := n_; clear n_
    have n_ := Aside0.mk (OU.out.step hb); clear OU; have OU := n_; clear n_
    have n_ := Aside0.mk (OH.out.step hb); clear OH; have OH := n_; clear n_
    have n_ := Aside0.mk (below_step HB.out hb); have z_ := Aside0.mk hb.size; clear HB; have HB := n_; clear n_; have HZ15 := z_; clear z_
    clear hb
    go_wp2_with fail
    refine ((held_at kh _ _ R _ _ HH.out Lg0.out OG.out.c)).mono ?_
    rintro e w16 ⟨rfl, hd⟩
    have hb := hd.below; clear hd
    have n_ := Aside0.mk (OY.out.step hb); clear OY; have OY := n_; clear n_
    have n_ := Aside0.mk (OW.out.step hb); clear OW; have OW := n_; clear n_
    have n_ := Aside0.mk (OX.out.step hb); clear OX; have OX := n_; clear n_
    have n_ := Aside0.mk (OG.out.step hb); clear OG; have OG := n_; clear n_
    have n_ := Aside0.mk (OZ.out.step hb); clear OZ; have OZ := n_; clear n_
    have n_ := Aside0.mk (OU.out.step hb); clear OU; have OU := n_; clear n_
    have n_ := Aside0.mk (OH.out.step hb); clear OH; have OH := n_; clear n_
    have n_ := Aside0.mk (below_step HB.out hb); have z_ := Aside0.mk hb.size; clear HB; have HB := n_; clear n_; have HZ16 := z_; clear z_
    clear hb
    go_wp2
    go_ret
    exact ⟨rfl, HB.out⟩
  · obtain rfl := hq hs
    clear hp hq hs
    go_enter Try.func4, Try.ntmps4
    go_wp2_with fail
    refine (laws_szIntSS.calls ks _ _ l0 1048576 (-1) _ HR.out HC.out HS.out).mono ?_
    rintro e w1 ⟨rfl, hd⟩
    go_wp2
    go_ret
    exact ⟨rfl, hd.below⟩
end Go.Proofs.Ytllnieknogficaa.K
namespace Go.Proofs.Ytllnieknogficaa.K
open Go.RowKit Go.Proofs.YtllnieknogficaaW.PrintWords Go.Proofs.YtllnieknogficaaW.PrintLast Go.Proofs.YtllnieknogficaaW.PrintMore
attribute [local go_sem] max2_int min2_int max_two min_two max_three min_three max_four min_four   -- for this text's walks alone
set_option linter.unusedVariables false
set_option linter.unusedSimpArgs false
open Go.ChangeShapes Go.WideShapes Go.ChangeAt Go.Deep
theorem read_int_rows {H : Type} {enc : TypeId × Value → H} {P : Program} {W : World} {t e q : TypeId} {a : Option Addr} {len cap : Nat} {d : DataW H} {ps : List MemPlace} (ht : P.underlying t = some (.slice e)) (he : P.underlying e = some (.slice q)) (hq : P.underlying q = some (.int .i64))
    (ce : P.cellsOf e = 1) (cq : P.cellsOf q = 1) (h : DataW.Trod enc P W 0 (fun _ => true) true t (.slice a len cap) d ps) :
    ∃ l : List (List Int), len = l.length ∧ Kd.C (Kd.slice 3 (Kd.int .i64)) W a l.length l ∧ l.length ≤ cap ∧ ∀ r ∈ l, r.length ≤ 9223372036854775807 := by
  obtain ⟨fuel, hf⟩ := h
  rcases open_int_rows ht he hq ce cq hf with ⟨hcs, _⟩ | ⟨x, l, c, A, L, C, Z, hcs, _, hl, hm, _, hrows⟩
  · simp [Value.cells] at hcs
    obtain ⟨rfl, rfl, rfl⟩ := hcs
    exact ⟨[], rfl, Kd.C_nil _ _, Nat.le_refl _, fun r hr => by simp at hr⟩
  · simp [Value.cells] at hcs
    obtain ⟨rfl, rfl, rfl⟩ := hcs
    have hmx : maxLen = 9223372036854775807 := rfl
    have hlen : ((List.range len).map fun r => (Z r).take (L r)).length = len := by simp
    have hzl : ∀ r, r < cap → ((Z r).take (L r)).length = L r := fun r hr => by
      obtain ⟨_, h1, _, h2, _⟩ := hrows r hr
      rw [List.length_take]
      omega
    refine ⟨(List.range len).map fun r => (Z r).take (L r), hlen.symm, ⟨rfl, by rw [hlen]; omega, fun hp => ⟨x, rfl, fun j p hj => ?_⟩⟩, by rw [hlen]; exact hl, fun r hr => ?_⟩
    · obtain ⟨hjl, hp2⟩ := List.getElem?_eq_some_iff.1 hj
      rw [hlen] at hjl
      obtain ⟨hcell, h1, h2, h3, _, h5, h6⟩ := hrows j (by omega)
      have hp3 : p = (Z j).take (L j) := by rw [← hp2]; simp
      subst hp3
      have hzj := hzl j (by omega)
      refine ⟨[.slice (A j) (L j) (C j)], rfl, ⟨A j, C j, by rw [hzj], by rw [hzj]; exact h1, ⟨rfl, by rw [hzj]; omega, fun hp => ?_⟩⟩, fun i u hu => ?_⟩
      · cases hA : A j with
        | none => rw [hzj] at hp; have := h5 hA; omega
        | some a' =>
          refine ⟨a', rfl, fun i p hi => ⟨[.int .i64 p], rfl, rfl, fun i2 u hu => ?_⟩⟩
          obtain ⟨hil, hpi⟩ := List.getElem?_eq_some_iff.1 hi
          rw [hzj] at hil
          have hcc := (h6 a' hA).2 i (by omega)
          have hi2 : i2 = 0 := by
            have := (List.getElem?_eq_some_iff.1 hu).1
            simpa using this
          subst hi2
          simp at hu
          subst hu
          show W.cell? (a'.add (i * 1 + 0)) = _
          rw [Nat.mul_one, Nat.add_zero, hcc, ← hpi]
          rw [List.getD_eq_getElem?_getD, List.getElem?_eq_getElem (by omega)]
          simp
      · have hi2 : i = 0 := by
          have := (List.getElem?_eq_some_iff.1 hu).1
          simpa using this
        subst hi2
        simp at hu
        subst hu
        show W.cell? (x.add (j * 1 + 0)) = _
        rw [Nat.mul_one, Nat.add_zero, hcell]
    · simp only [List.mem_map, List.mem_range] at hr
      obtain ⟨j, hj, rfl⟩ := hr
      obtain ⟨_, h1, h2, _⟩ := hrows j (by omega)
      rw [hzl j (by omega)]
      omega
end Go.Proofs.Ytllnieknogficaa.K
