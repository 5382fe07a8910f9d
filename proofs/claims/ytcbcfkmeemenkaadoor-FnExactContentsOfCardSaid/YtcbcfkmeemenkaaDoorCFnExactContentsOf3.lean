import Derived.ArgAppend
import Derived.Below
import Derived.BigQuiet
import Derived.Deep.AppendLies
import Derived.Deep.CutBlock
import Derived.Deep.DeepCutAuto
import Derived.Deep.Draws
import Derived.Deep.LoopGhost
import Derived.Deep.OwnRows
import Derived.Deep.QuietTactic
import Derived.Deep.RegionHeld3
import Derived.KernelRfl
import Derived.Laws.BitsLemmas
import Derived.Laws.BytesArg
import Derived.Laws.IdiomCopy
import Derived.Laws.MakeOwn
import Derived.Laws.OwnMore
import Derived.Laws.Rows
import Derived.Laws.Slices
import Derived.Laws.StructEq
import Derived.Lib.AppendStr
import Derived.Lib.ConvBytes
import Derived.Lib.SliceRun
import Derived.Maps.AppendAt
import Derived.OrdersHeld
import Derived.OwnWalk
import Derived.RowKit
import Derived.RowKit3
import Derived.Shelf.Abstract
import Derived.Shelf.Spec.TrailingZeros
import Derived.Tactics
import Derived.Test.YtcbcfkmeemenkaaDoorProg
import Derived.WalkKit
import Derived.WideLaws
import Derived.Test.YtcbcfkmeemenkaaDoorCFnExactContentsOf2
section M0
namespace Go.Proofs.YtcbcfkmeemenkaaDoor.P
open Go.RowKit Go.Proofs.YtcbcfkmeemenkaaDoor.Sh Go.Proofs.YtcbcfkmeemenkaaDoorW.PrintWords Go.Proofs.YtcbcfkmeemenkaaDoorW.PrintLast Go.Proofs.YtcbcfkmeemenkaaDoorW.PrintMore
attribute [local go_sem] max2_int min2_int max_two min_two max_three min_three max_four min_four   -- for this text's walks alone
set_option linter.unusedVariables false
set_option linter.unusedSimpArgs false
/-! ### spec_l13Contents: function 25 -/
mutual
def spec_l13Contents.j0 : Nat → List (S50) → Int → List Bool → Int → Bool → Option (List Bool)
 | 0, _, _, _, _, _ => none
 | k + 1, x0, x1, x5, x19, x34 => if x34 = true then ((spec_l13Contents.f k x0 (wrap64 (x1 + 1))).bind fun t136 => ((spec_l13End.f k x0 (wrap64 (x1 + 1))).bind fun t139 => ((spec_l13Contents.f k x0 t139).bind fun t140 => (spec_l13Contents.l0 k x0 x1 x5 t136 t140 0)))) else (if x19 = 5 then ((spec_l13Contents.f k x0 (wrap64 (x1 + 1))).bind fun t153 => (if 0 < (x5.length : Int) then (spec_l13Contents.l2 k (x5.set (0 : Int).toNat true) t153 true) else (none))) else (some x5))
def spec_l13Contents.l0 : Nat → List (S50) → Int → List Bool → List Bool → List Bool → Int → Option (List Bool)
 | 0, _, _, _, _, _, _ => none
 | k + 1, x0, x1, x5, x6, x7, x8 => if x8 < 256 then (if 0 ≤ x1 then (if x1 < (x0.length : Int) then (if ((rd_T50 x0 x1).f0) = 3 then (if 0 ≤ x8 then (if x8 < (x6.length : Int) then (if rdOf false x6 x8 = true then (if x8 < (x5.length : Int) then (spec_l13Contents.l0 k x0 x1 (x5.set (x8 : Int).toNat true) x6 x7 (wrap64 (x8 + 1))) else (none)) else (if x8 < (x7.length : Int) then (if x8 < (x5.length : Int) then (spec_l13Contents.l0 k x0 x1 (x5.set (x8 : Int).toNat (rdOf false x7 x8)) x6 x7 (wrap64 (x8 + 1))) else (none)) else (none))) else (none)) else (none)) else (spec_l13Contents.l1 k x0 x1 x5 x6 x7 x8 0)) else (none)) else (none)) else (some x5)
def spec_l13Contents.l1 : Nat → List (S50) → Int → List Bool → List Bool → List Bool → Int → Int → Option (List Bool)
 | 0, _, _, _, _, _, _, _ => none
 | k + 1, x0, x1, x5, x6, x7, x8, x9 => if x9 < 256 then (if 0 ≤ x8 then (if x8 < (x6.length : Int) then (if rdOf false x6 x8 = true then (if 0 ≤ (Go.bits .or .i64 x8 x9) then (if (Go.bits .or .i64 x8 x9) < (x5.length : Int) then (if rdOf false x5 (Go.bits .or .i64 x8 x9) = true then (spec_l13Contents.l1 k x0 x1 (x5.set ((Go.bits .or .i64 x8 x9) : Int).toNat true) x6 x7 x8 (wrap64 (x9 + 1))) else (if 0 ≤ x9 then (if x9 < (x7.length : Int) then (spec_l13Contents.l1 k x0 x1 (x5.set ((Go.bits .or .i64 x8 x9) : Int).toNat (rdOf false x7 x9)) x6 x7 x8 (wrap64 (x9 + 1))) else (none)) else (none))) else (none)) else (none)) else (spec_l13Contents.l0 k x0 x1 x5 x6 x7 (wrap64 (x8 + 1)))) else (none)) else (none)) else (spec_l13Contents.l0 k x0 x1 x5 x6 x7 (wrap64 (x8 + 1)))
def spec_l13Contents.l2 : Nat → List Bool → List Bool → Bool → Option (List Bool)
 | 0, _, _, _ => none
 | k + 1, x5, x10, x11 => if x11 = true then (spec_l13Contents.l3 k x5 x10 false 0) else (some x5)
def spec_l13Contents.l3 : Nat → List Bool → List Bool → Bool → Int → Option (List Bool)
 | 0, _, _, _, _ => none
 | k + 1, x5, x10, x11, x12 => if x12 < 256 then (spec_l13Contents.l4 k x5 x10 x11 x12 0) else (spec_l13Contents.l2 k x5 x10 x11)
def spec_l13Contents.l4 : Nat → List Bool → List Bool → Bool → Int → Int → Option (List Bool)
 | 0, _, _, _, _, _ => none
 | k + 1, x5, x10, x11, x12, x13 => if x13 < 256 then (if 0 ≤ x12 then (if x12 < (x5.length : Int) then (spec_l13Contents.j6 k x5 x10 x11 x12 x13 (rdOf false x5 x12)) else (none)) else (none)) else (spec_l13Contents.j6 k x5 x10 x11 x12 x13 false)
def spec_l13Contents.j6 : Nat → List Bool → List Bool → Bool → Int → Int → Bool → Option (List Bool)
 | 0, _, _, _, _, _, _ => none
 | k + 1, x5, x10, x11, x12, x13, x117 => if x117 = true then (if 0 ≤ x13 then (if x13 < (x10.length : Int) then (if rdOf false x10 x13 = true then (if 0 ≤ (Go.bits .or .i64 x12 x13) then (if (Go.bits .or .i64 x12 x13) < (x5.length : Int) then (if (rdOf false x5 (Go.bits .or .i64 x12 x13) = true) then (spec_l13Contents.l4 k x5 x10 x11 x12 (wrap64 (x13 + 1))) else (spec_l13Contents.l4 k (x5.set ((Go.bits .or .i64 x12 x13) : Int).toNat true) x10 true x12 (wrap64 (x13 + 1)))) else (none)) else (none)) else (spec_l13Contents.l4 k x5 x10 x11 x12 (wrap64 (x13 + 1)))) else (none)) else (none)) else (spec_l13Contents.l3 k x5 x10 x11 (wrap64 (x12 + 1)))
def spec_l13Contents.f : Nat → List (S50) → Int → Option (List Bool)
 | 0, _, _ => none
 | k + 1, l0, a1 => if 256 ≤ 281474976710656 then ((some (List.replicate 256 false : List Bool)).bind fun y128 => (if 0 ≤ a1 then (if a1 < (l0.length : Int) then (if ((rd_T50 l0 a1).f0) = 1 then (if 0 < (y128.length : Int) then (some (y128.set (0 : Int).toNat true)) else (none)) else (if ((rd_T50 l0 a1).f0) = 2 then ((spec_l01One.f ((rd_T50 l0 a1).f1)).bind fun t134 => (if 0 ≤ t134 then (if t134 < (y128.length : Int) then (some (y128.set (t134 : Int).toNat true)) else (none)) else (none))) else (if ((rd_T50 l0 a1).f0) = 3 then (spec_l13Contents.j0 k l0 a1 y128 ((rd_T50 l0 a1).f0) (((rd_T50 l0 a1).f0) == 3)) else (spec_l13Contents.j0 k l0 a1 y128 ((rd_T50 l0 a1).f0) (((rd_T50 l0 a1).f0) == 4))))) else (none)) else (none))) else (none)
end
set_option maxHeartbeats 8000000 in
set_option maxRecDepth 100000 in
theorem spec_l13Contents.calls (k : Nat) : ∀ (A0 : Option Addr) (c0 : Nat) (l0 : List (S50)) (a1 : Int) (r : List Bool) (w : World) (hr0 : Kd.C k50 w A0 l0.length l0) (hc0 : l0.length ≤ c0) (h : spec_l13Contents.f k l0 a1 = some r),
  Calls Tryd.prog 25 #[.slice A0 l0.length c0, .int .i64 a1] w fun e w' => ∃ v0_ : Value, e = .returned (v0_) ∧ Kd.R Kd.bool 4 w' w.heap.size (fun _ => True) v0_ r ∧ Below w.heap.size w w' := by
 induction k using Nat.strongRecOn with
 | _ k ih =>
 intro A0 c0 l0 a1 r w hr0 hc0 h
 cases k with
 | zero => exact absurd h (by simp [spec_l13Contents.f])
 | succ k =>
 simp only [spec_l13Contents.f] at h
 have HR0 := Aside0.mk hr0
 have HC0 := Aside0.mk hc0
 clear hr0 hc0
 have HB := Aside0.mk (Below.refl w.heap.size w)
 have H : (if 256 ≤ 281474976710656 then ((some (List.replicate 256 false : List Bool)).bind fun y128 => (if 0 ≤ a1 then (if a1 < (l0.length : Int) then (if ((rd_T50 l0 a1).f0) = 1 then (if 0 < (y128.length : Int) then (some (y128.set (0 : Int).toNat true)) else (none)) else (if ((rd_T50 l0 a1).f0) = 2 then ((spec_l01One.f ((rd_T50 l0 a1).f1)).bind fun t134 => (if 0 ≤ t134 then (if t134 < (y128.length : Int) then (some (y128.set (t134 : Int).toNat true)) else (none)) else (none))) else (if ((rd_T50 l0 a1).f0) = 3 then (spec_l13Contents.j0 k l0 a1 y128 ((rd_T50 l0 a1).f0) (((rd_T50 l0 a1).f0) == 3)) else (spec_l13Contents.j0 k l0 a1 y128 ((rd_T50 l0 a1).f0) (((rd_T50 l0 a1).f0) == 4))))) else (none)) else (none))) else (none)) = some r := h
 clear h
 by_cases c3 : 256 ≤ 281474976710656
 ·rw [if_pos c3] at H
  have c3b0 := eq_true c3
  have c3b1 : decide (256 ≤ 281474976710656) = true := decide_eq_true c3
  clear c3
  obtain ⟨y128, hy128⟩ : ∃ y_ : List Bool, y_ = (List.replicate 256 false) := ⟨_, rfl⟩
  replace H : (if 0 ≤ a1 then (if a1 < (l0.length : Int) then (if ((rd_T50 l0 a1).f0) = 1 then (if 0 < (y128.length : Int) then (some (y128.set (0 : Int).toNat true)) else (none)) else (if ((rd_T50 l0 a1).f0) = 2 then ((spec_l01One.f ((rd_T50 l0 a1).f1)).bind fun t134 => (if 0 ≤ t134 then (if t134 < (y128.length : Int) then (some (y128.set (t134 : Int).toNat true)) else (none)) else (none))) else (if ((rd_T50 l0 a1).f0) = 3 then (spec_l13Contents.j0 k l0 a1 y128 ((rd_T50 l0 a1).f0) (((rd_T50 l0 a1).f0) == 3)) else (spec_l13Contents.j0 k l0 a1 y128 ((rd_T50 l0 a1).f0) (((rd_T50 l0 a1).f0) == 4))))) else (none)) else (none)) = some r := by first | (rw [hy128]; with_reducible exact H) | (have H2_ := (Option.bind_some _ _).symm.trans H; rw [hy128]; with_reducible exact H2_) | (have H2_ := (Option.bind_some _ _).symm.trans H; with_reducible exact H2_) | with_reducible exact H | (rw [hy128]; exact H) | exact H
  have Ny128 := Aside0.mk hy128
  clear hy128
  by_cases c4 : 0 ≤ a1
  ·rw [if_pos c4] at H
   have c4b0 : decide (0 ≤ a1) = true := decide_eq_true c4
   clear c4
   by_cases c5 : a1 < (l0.length : Int)
   ·rw [if_pos c5] at H
    have c5b0 : decide (a1 < (l0.length : Int)) = true := decide_eq_true c5
    clear c5
    by_cases c6 : ((rd_T50 l0 a1).f0) = 1
    ·rw [if_pos c6] at H
     have c6b0 : (((rd_T50 l0 a1).f0) == 1) = true := beq_iff_eq.mpr c6
     have c6b1 : (((rd_T50 l0 a1).f0) != 1) = false := bne_eq_false_iff_eq.mpr c6
     clear c6
     by_cases c7 : 0 < (y128.length : Int)
     ·rw [if_pos c7] at H
      have c7b0 : decide (0 < (y128.length : Int)) = true := decide_eq_true c7
      have c7b1 : decide (0 < y128.length) = true := decide_eq_true (by omega)
      clear c7
      obtain ⟨y132, hy132⟩ : ∃ y_ : List Bool, y_ = (y128.set (0 : Int).toNat true) := ⟨_, rfl⟩
      replace H : (some y132) = some r := by first | (rw [hy132]; with_reducible exact H) | (have H2_ := (Option.bind_some _ _).symm.trans H; rw [hy132]; with_reducible exact H2_) | (have H2_ := (Option.bind_some _ _).symm.trans H; with_reducible exact H2_) | with_reducible exact H | (rw [hy132]; exact H) | exact H
      have Ny132 := Aside0.mk hy132
      clear hy132
      obtain rfl := Option.some.inj H
      go_enter Tryd.func25, Tryd.ntmps25
      go_wp2_with (first | ((with_reducible refine gate_dst (N := 14) rfl ?_); refine Kd.R_make Kd.bool _ 4 rfl (N := 14) rfl 46 _ _ rfl 256 rfl rfl Tryd.underlying46 (.bool false) 1 info4 rfl (by decide) (by omega) false (ok := fun _ => True) (okp := fun _ => True) rfl (fun _ hk => hk) trivial (by omega) (by omega) (Below.refl _ _) (Nat.le_refl _) ?_; intro v129 w9 ho10 hb hg_ hnew_; clear hg_ hnew_; (first | rw [← Ny128.out] at ho10 | (simp only [Int.reduceToNat] at ho10; rw [← Ny128.out] at ho10)); have n0_ := Aside0.mk (Kd.R_lower ho10 (below_size (bW))); have n1_ := Aside0.mk (below_step (bW) hb); clear HB; have HO130 := n0_; have HB := n1_; clear n0_ n1_ hb ho10; have p131 : 0 ≤ (a1 : Int) := ofD; have q131 : a1 < (l0.length : Int) := ofD; obtain ⟨ad131, e131, hx131_0, hx131_1⟩ := at_T50 HR0.out a1 p131 q131; cases e131; replace hx131_0 := (HB.out.cell (World.block_lt_of_cell? w _ hx131_0)).trans hx131_0; replace hx131_1 := (HB.out.cell (World.block_lt_of_cell? w _ hx131_1)).trans hx131_1; replace p131 := eq_true p131; replace q131 := eq_true q131; have p8 : 0 ≤ (0 : Int) := (by omega); have q8 : (0 : Int) < ((y128.length : Int) : Int) := ofD; have qi8 : (0 < y128.length) = True := eq_true (by omega); obtain ⟨go8, co8, eo8, gb8, gl8, cl8, HG8⟩ := Kd.R_form HO130.out (by omega); (first | cases eo8 | (injection eo8 with ea_ en_ ec_; (first | subst ea_ | (injection ea_ with ea_; subst ea_)); subst ec_; clear en_)); have GB8 := Aside0.mk gb8; have GG8 := Aside0.mk HG8; clear gb8 gl8 HG8; obtain ⟨hx8_0, hf8_0⟩ := Kd.R_celln false HO130.out (0 : Int) p8 q8; (try rw [show ((0 : Int)).toNat = 0 from rfl] at hx8_0); (try simp only [Nat.reduceMul, Nat.zero_mul, Nat.zero_add, Nat.reduceAdd] at hx8_0); (try rw [show ((0 : Int)).toNat = 0 from rfl] at hf8_0); (try simp only [Nat.reduceMul, Nat.zero_mul, Nat.zero_add, Nat.reduceAdd] at hf8_0); replace p8 := eq_true p8; replace q8 := eq_true q8; obtain ⟨hy11_, hz11_⟩ := Kd.R_celln false HO130.out (0 : Int) (by omega) (ofD); (try simp only [Int.reduceToNat, Int.toNat_zero, Int.toNat_ofNat, Nat.reduceMul, Nat.zero_mul, Nat.zero_add] at hy11_ hz11_); (try rw [show ((0 : Int)).toNat = 0 from rfl] at hy11_); (try rw [show ((0 : Int)).toNat = 0 from rfl] at hz11_); have HP11 := Kd.R_putg HO130.out (0 : Int) true) | ((with_reducible refine gate_store (t := 4) (p := 23) rfl ?_); refine storeS (t := 4) (p := 23) (w1 := (w9.setCell ⟨go8, (0 : Int).toNat, none⟩ (.bool true))) ?_; intro w12 hw; have hg : w9.grownBy w12 (some go8) := (by rw [hw]; exact HP11.2); have hp_ : Kd.R Kd.bool 4 w12 w.heap.size (fun _ => True) (.slice (some ⟨go8, 0, none⟩) y128.length co8) y132 := (by rw [hw, Ny132.out]; exact HP11.1); clear HP11; have n0_ := Aside0.mk (hp_); have n1_ := Aside0.mk ((by rw [hw]; exact below_set (HB.out) GB8.out : Below w.heap.size w w12)); clear HO130 HB; have HO130 := n0_; have HB := n1_; clear n0_ n1_ hg hw hp_))
      go_ret
      exact ⟨_, eW, (rP HO130.out), bW⟩
     ·rw [if_neg c7] at H
      exact absurd H (by simp)
    ·rw [if_neg c6] at H
     have c6b0 : (((rd_T50 l0 a1).f0) == 1) = false := beq_eq_false_iff_ne.mpr c6
     have c6b1 : (((rd_T50 l0 a1).f0) != 1) = true := bne_iff_ne.mpr c6
     by_cases c13 : ((rd_T50 l0 a1).f0) = 2
     ·rw [if_pos c13] at H
      have c13b0 : (((rd_T50 l0 a1).f0) == 2) = true := beq_iff_eq.mpr c13
      have c13b1 : (((rd_T50 l0 a1).f0) != 2) = false := bne_eq_false_iff_eq.mpr c13
      clear c13
      replace H := Option.bind_eq_some_iff.mp H
      obtain ⟨t134, A140, H⟩ := H
      replace H : (if 0 ≤ t134 then (if t134 < (y128.length : Int) then (some (y128.set (t134 : Int).toNat true)) else (none)) else (none)) = some r := H
      have A14 := Aside0.mk A140
      clear A140
      by_cases c15 : 0 ≤ t134
      ·rw [if_pos c15] at H
       have c15b0 : decide (0 ≤ t134) = true := decide_eq_true c15
       clear c15
       by_cases c16 : t134 < (y128.length : Int)
       ·rw [if_pos c16] at H
        have c16b0 : decide (t134 < (y128.length : Int)) = true := decide_eq_true c16
        clear c16
        obtain ⟨y135, hy135⟩ : ∃ y_ : List Bool, y_ = (y128.set (t134 : Int).toNat true) := ⟨_, rfl⟩
        replace H : (some y135) = some r := by first | (rw [hy135]; with_reducible exact H) | (have H2_ := (Option.bind_some _ _).symm.trans H; rw [hy135]; with_reducible exact H2_) | (have H2_ := (Option.bind_some _ _).symm.trans H; with_reducible exact H2_) | with_reducible exact H | (rw [hy135]; exact H) | exact H
        have Ny135 := Aside0.mk hy135
        clear hy135
        obtain rfl := Option.some.inj H
        go_enter Tryd.func25, Tryd.ntmps25
        go_wp2_with (first | ((with_reducible refine gate_dst (N := 14) rfl ?_); refine Kd.R_make Kd.bool _ 4 rfl (N := 14) rfl 46 _ _ rfl 256 rfl rfl Tryd.underlying46 (.bool false) 1 info4 rfl (by decide) (by omega) false (ok := fun _ => True) (okp := fun _ => True) rfl (fun _ hk => hk) trivial (by omega) (by omega) (Below.refl _ _) (Nat.le_refl _) ?_; intro v129 w18 ho19 hb hg_ hnew_; clear hg_ hnew_; (first | rw [← Ny128.out] at ho19 | (simp only [Int.reduceToNat] at ho19; rw [← Ny128.out] at ho19)); have n0_ := Aside0.mk (Kd.R_lower ho19 (below_size (bW))); have n1_ := Aside0.mk (below_step (bW) hb); clear HB; have HO130 := n0_; have HB := n1_; clear n0_ n1_ hb ho19; have p131 : 0 ≤ (a1 : Int) := ofD; have q131 : a1 < (l0.length : Int) := ofD; obtain ⟨ad131, e131, hx131_0, hx131_1⟩ := at_T50 HR0.out a1 p131 q131; cases e131; replace hx131_0 := (HB.out.cell (World.block_lt_of_cell? w _ hx131_0)).trans hx131_0; replace hx131_1 := (HB.out.cell (World.block_lt_of_cell? w _ hx131_1)).trans hx131_1; replace p131 := eq_true p131; replace q131 := eq_true q131; have p133 : 0 ≤ (a1 : Int) := ofD; have q133 : a1 < (l0.length : Int) := ofD; obtain ⟨ad133, e133, hx133_0, hx133_1⟩ := at_T50 HR0.out a1 p133 q133; obtain rfl : ad131 = ad133 := (by injection e133); replace hx133_0 := (HB.out.cell (World.block_lt_of_cell? w _ hx133_0)).trans hx133_0; replace hx133_1 := (HB.out.cell (World.block_lt_of_cell? w _ hx133_1)).trans hx133_1; replace p133 := eq_true p133; replace q133 := eq_true q133) | ((with_reducible refine gate_callee (f := 36) rfl ?_); refine goesS (some 32) Tryd.func36 #[.int .i64 ((rd_T50 l0 a1).f1)] ?_; (with_reducible refine (spec_l01One.calls ((rd_T50 l0 a1).f1) t134 _ A14.out).mono ?_); rintro e w' ⟨rfl, ⟨nd, rfl⟩⟩; refine ⟨_, rfl, ?_⟩; (try ((repeat rw [World.drewN_drewN w18]); (first | generalize hq_ : World.drewN w18 _ = w18 | (rw [drewN_self w18]; generalize hq_ : World.drewN w18 _ = w18)); have n0_ : Aside0 (Kd.R Kd.bool 4 w18 w.heap.size (fun _ => True) v129 y128) := ⟨by rw [← hq_]; exact (rP HO130.out)⟩; have n1_ : Aside0 (Below w.heap.size w w18) := ⟨by rw [← hq_]; exact (bW)⟩; clear HO130 HB hq_; have HO130 := n0_; have HB := n1_; clear n0_ n1_)); have p17 : 0 ≤ (t134 : Int) := ofD; have q17 : (t134 : Int) < ((y128.length : Int) : Int) := ofD; obtain ⟨go17, co17, eo17, gb17, gl17, cl17, HG17⟩ := Kd.R_form HO130.out (by omega); (first | cases eo17 | (injection eo17 with ea_ en_ ec_; (first | subst ea_ | (injection ea_ with ea_; subst ea_)); subst ec_; clear en_)); have GB17 := Aside0.mk gb17; have GG17 := Aside0.mk HG17; clear gb17 gl17 HG17; obtain ⟨hx17_0, hf17_0⟩ := Kd.R_celln false HO130.out (t134 : Int) p17 q17; replace p17 := eq_true p17; replace q17 := eq_true q17; obtain ⟨hy20_, hz20_⟩ := Kd.R_celln false HO130.out (t134 : Int) (ofD) (ofD); have HP20 := Kd.R_putg HO130.out (t134 : Int) true) | ((with_reducible refine gate_store (t := 4) (p := 33) rfl ?_); refine storeS (t := 4) (p := 33) (w1 := (w18.setCell ⟨go17, (t134 : Int).toNat, none⟩ (.bool true))) ?_; intro w21 hw; have hg : w18.grownBy w21 (some go17) := (by rw [hw]; exact HP20.2); have hp_ : Kd.R Kd.bool 4 w21 w.heap.size (fun _ => True) (.slice (some ⟨go17, 0, none⟩) y128.length co17) y135 := (by rw [hw, Ny135.out]; exact HP20.1); clear HP20; have n0_ := Aside0.mk (hp_); have n1_ := Aside0.mk ((by rw [hw]; exact below_set (HB.out) GB17.out : Below w.heap.size w w21)); clear HO130 HB; have HO130 := n0_; have HB := n1_; clear n0_ n1_ hg hw hp_))
        go_ret
        exact ⟨_, eW, (rP HO130.out), bW⟩
       ·rw [if_neg c16] at H
        exact absurd H (by simp)
      ·rw [if_neg c15] at H
       exact absurd H (by simp)
     ·rw [if_neg c13] at H
      have c13b0 : (((rd_T50 l0 a1).f0) == 2) = false := beq_eq_false_iff_ne.mpr c13
      have c13b1 : (((rd_T50 l0 a1).f0) != 2) = true := bne_iff_ne.mpr c13
      have HC22 := Aside0.mk H
      clear H
      go_enter Tryd.func25, Tryd.ntmps25
      go_upto_if 34 with (first | ((with_reducible refine gate_dst (N := 14) rfl ?_); refine Kd.R_make Kd.bool _ 4 rfl (N := 14) rfl 46 _ _ rfl 256 rfl rfl Tryd.underlying46 (.bool false) 1 info4 rfl (by decide) (by omega) false (ok := fun _ => True) (okp := fun _ => True) rfl (fun _ hk => hk) trivial (by omega) (by omega) (Below.refl _ _) (Nat.le_refl _) ?_; intro v129 w23 ho24 hb hg_ hnew_; clear hg_ hnew_; (first | rw [← Ny128.out] at ho24 | (simp only [Int.reduceToNat] at ho24; rw [← Ny128.out] at ho24)); have n0_ := Aside0.mk (Kd.R_lower ho24 (below_size (bW))); have n1_ := Aside0.mk (below_step (bW) hb); clear HB; have HO130 := n0_; have HB := n1_; clear n0_ n1_ hb ho24; have p131 : 0 ≤ (a1 : Int) := ofD; have q131 : a1 < (l0.length : Int) := ofD; obtain ⟨ad131, e131, hx131_0, hx131_1⟩ := at_T50 HR0.out a1 p131 q131; cases e131; replace hx131_0 := (HB.out.cell (World.block_lt_of_cell? w _ hx131_0)).trans hx131_0; replace hx131_1 := (HB.out.cell (World.block_lt_of_cell? w _ hx131_1)).trans hx131_1; replace p131 := eq_true p131; replace q131 := eq_true q131))
      (try simp only [Act.put, List.setIfInBounds_toArray, List.set_cons_zero, List.set_cons_succ])
      go_cut [34] (fun v34 wc => ∃ (kq : Nat) (x34_21 : Bool), v34 = .bool x34_21 ∧ Aside0 (spec_l13Contents.j0 kq l0 a1 y128 ((rd_T50 l0 a1).f0) x34_21 = some r) ∧ Aside0 (kq ≤ k) ∧ Aside0 (Kd.R Kd.bool 4 wc w.heap.size (fun _ => True) v129 y128) ∧ Aside0 (Below w.heap.size w wc))
      case first =>
       have H := HC22.out
       clear HC22
       by_cases c25 : ((rd_T50 l0 a1).f0) = 3
       ·rw [if_pos c25] at H
        have c25b0 : (((rd_T50 l0 a1).f0) == 3) = true := beq_iff_eq.mpr c25
        have c25b1 : (((rd_T50 l0 a1).f0) != 3) = false := bne_eq_false_iff_eq.mpr c25
        clear c25
        (first | rw [c25b0] | (simp only [i64_w, i32_w]; rw [c25b0]) | skip)
        have H' := Aside0.mk H
        clear H
        go_wp2
        go_meet
        case rel => exact ⟨_, ((((rd_T50 l0 a1).f0) == 3)), (eW), H', ⟨by first | omega | exact Nat.le_refl _⟩, ⟨(rP HO130.out)⟩, ⟨bW⟩⟩
       ·rw [if_neg c25] at H
        have c25b0 : (((rd_T50 l0 a1).f0) == 3) = false := beq_eq_false_iff_ne.mpr c25
        have c25b1 : (((rd_T50 l0 a1).f0) != 3) = true := bne_iff_ne.mpr c25
        (first | rw [c25b0] | (simp only [i64_w, i32_w]; rw [c25b0]) | skip)
        have H' := Aside0.mk H
        clear H
        go_wp2
        go_meet
        case rel => exact ⟨_, ((((rd_T50 l0 a1).f0) == 4)), (eW), H', ⟨by first | omega | exact Nat.le_refl _⟩, ⟨(rP HO130.out)⟩, ⟨bW⟩⟩
      case rest =>
       clear HC22
       try clear c1
       try clear p1
       try clear q1
       try clear hx1
       try clear c2
       try clear p2
       try clear c3
       try clear c3b0
       try clear c3b1
       try clear c4
       try clear c4b0
       try clear c5
       try clear c5b0
       try clear c6
       try clear c6b0
       try clear c6b1
       try clear c7
       try clear c7b0
       try clear c7b1
       try clear p8
       try clear q8
       try clear hx8
       try clear qi8
       try clear hf8
       try clear c13
       try clear c13b0
       try clear c13b1
       try clear p13
       try clear q13
       try clear hx13
       try clear c15
       try clear c15b0
       try clear c16
       try clear c16b0
       try clear p17
       try clear q17
       try clear hx17
       try clear hf17
       try clear c25
       try clear c25b0
       try clear c25b1
       try clear hx131_0
       try clear hx131_1
       try clear hx133_0
       try clear hx133_1
       try clear hx17_0
       try clear hx8_0
       try clear p131
       try clear p133
       try clear p17
       try clear p8
       try clear q131
       try clear q133
       try clear q17
       try clear q8
       obtain ⟨kq, x34_21, rfl, HA, HJ21, HO_5, HB⟩ := hcut
       cases kq with
       | zero => exact absurd HA.out (by simp [spec_l13Contents.j0])
       | succ kj21 =>
        have H := HA.out
        clear HA
        simp only [spec_l13Contents.j0] at H
        by_cases c26 : x34_21 = true
        ·subst c26
         have H1 : ((spec_l13Contents.f kj21 l0 (wrap64 (a1 + 1))).bind fun t136 => ((spec_l13End.f kj21 l0 (wrap64 (a1 + 1))).bind fun t139 => ((spec_l13Contents.f kj21 l0 t139).bind fun t140 => (spec_l13Contents.l0 kj21 l0 a1 y128 t136 t140 0)))) = some r := by rw [if_pos rfl] at H; exact H
         clear H
         have H := H1
         clear H1
         replace H := Option.bind_eq_some_iff.mp H
         obtain ⟨t136, A270, H⟩ := H
         replace H : ((spec_l13End.f kj21 l0 (wrap64 (a1 + 1))).bind fun t139 => ((spec_l13Contents.f kj21 l0 t139).bind fun t140 => (spec_l13Contents.l0 kj21 l0 a1 y128 t136 t140 0))) = some r := H
         have A27 := Aside0.mk A270
         clear A270
         replace H := Option.bind_eq_some_iff.mp H
         obtain ⟨t139, A280, H⟩ := H
         replace H : ((spec_l13Contents.f kj21 l0 t139).bind fun t140 => (spec_l13Contents.l0 kj21 l0 a1 y128 t136 t140 0)) = some r := H
         have A28 := Aside0.mk A280
         clear A280
         replace H := Option.bind_eq_some_iff.mp H
         obtain ⟨t140, A290, H⟩ := H
         replace H : (spec_l13Contents.l0 kj21 l0 a1 y128 t136 t140 0) = some r := H
         have A29 := Aside0.mk A290
         clear A290
         have H' := Aside0.mk H
         clear H
         go_wp2_with (first | ((with_reducible refine gate_callee (f := 25) rfl ?_); refine goesS (some 40) Tryd.func25 #[.slice (some ad131) l0.length c0, .int .i64 (wrap64 (a1 + 1))] ?_; (with_reducible refine (ih kj21 (by have := HJ21.out; omega) _ _ l0 (wrap64 (a1 + 1)) t136 _ ?side1 ?side2 A27.out).mono ?_); (case side1 => exact cP (Kd.C_below HR0.out HB.out)); (case side2 => exact HC0.out); rintro e w30 ⟨v137, rfl, ho0, hb⟩; refine ⟨_, rfl, ?_⟩; have n0_ := Aside0.mk (Kd.R_elder' (rP HO_5.out) (Kd.R_base ho0) hb); have n1_ := Aside0.mk (Kd.R_lower (Kd.R_new' ho0 (Kd.R_lt (rP HO_5.out))) (below_size (bW))); have n2_ := Aside0.mk (below_step (bW) hb); clear HO_5 HB; have HO_5 := n0_; have HO138 := n1_; have HB := n2_; clear n0_ n1_ n2_; (try clear hb); (try clear hb2); (try clear hk); (try clear hi); (try clear ho0)) | ((with_reducible refine gate_callee (f := 35) rfl ?_); refine goesS (some 45) Tryd.func35 #[.slice (some ad131) l0.length c0, .int .i64 (wrap64 (a1 + 1))] ?_; (with_reducible refine (spec_l13End.calls kj21 _ _ l0 (wrap64 (a1 + 1)) t139 _ ?side1 ?side2 A28.out).mono ?_); (case side1 => exact cP (Kd.C_below HR0.out HB.out)); (case side2 => exact HC0.out); rintro e w' ⟨rfl, ⟨nd, rfl⟩⟩; refine ⟨_, rfl, ?_⟩) | ((with_reducible refine gate_callee (f := 25) rfl ?_); refine goesS (some 46) Tryd.func25 #[.slice (some ad131) l0.length c0, .int .i64 t139] ?_; (with_reducible refine (ih kj21 (by have := HJ21.out; omega) _ _ l0 t139 t140 _ ?side1 ?side2 A29.out).mono ?_); (case side1 => exact cP (Kd.C_below HR0.out (bW))); (case side2 => exact HC0.out); rintro e w31 ⟨v141, rfl, ho0, hb⟩; refine ⟨_, rfl, ?_⟩; have n0_ := Aside0.mk (Kd.R_elder' (rP HO_5.out) (Kd.R_base ho0) hb); have n1_ := Aside0.mk (Kd.R_elder' (rP HO138.out) (Kd.R_base ho0) hb); have n2_ := Aside0.mk (Kd.R_lower (Kd.R_new' (Kd.R_new' ho0 (Kd.R_lt (rP HO_5.out))) (Kd.R_lt (rP HO138.out))) (below_size (bW))); have n3_ := Aside0.mk (below_step (bW) hb); clear HO_5 HO138 HB; have HO_5 := n0_; have HO138 := n1_; have HO142 := n2_; have HB := n3_; clear n0_ n1_ n2_ n3_; (try clear hb); (try clear hb2); (try clear hk); (try clear hi); (try clear ho0)))
         go_loopg [8] kj21 (fun kq v8 w' => ∃ (x5_2 : List Bool) (x8_2 : Int), v8 = .int .i64 x8_2 ∧ Aside0 (spec_l13Contents.l0 kq l0 a1 x5_2 t136 t140 x8_2 = some r) ∧ Aside0 (kq ≤ kj21) ∧ Aside0 (Kd.R Kd.bool 4 w' w.heap.size (fun k_ => some k_ ≠ (v137 : Value).ownBlock ∧ some k_ ≠ (v141 : Value).ownBlock) v129 x5_2) ∧ Aside0 (Kd.R Kd.bool 4 w' w.heap.size (fun k_ => some k_ ≠ (v129 : Value).ownBlock ∧ some k_ ≠ (v141 : Value).ownBlock) v137 t136) ∧ Aside0 (Kd.R Kd.bool 4 w' w.heap.size (fun k_ => some k_ ≠ (v129 : Value).ownBlock ∧ some k_ ≠ (v137 : Value).ownBlock) v141 t140) ∧ Aside0 (Below w.heap.size w w'))
         case atStart => exact ⟨(y128), (0), (eW), H', ⟨Nat.le_refl _⟩, ⟨by (with_reducible repeat (first | apply Kd.R_alloc | apply Kd.R_drewN | apply Kd.R_drew)); exact Kd.R_mono HO_5.out (fun _ hk => ⟨hk.1.2, hk.2⟩)⟩, ⟨by (with_reducible repeat (first | apply Kd.R_alloc | apply Kd.R_drewN | apply Kd.R_drew)); exact Kd.R_mono HO138.out (fun _ hk => ⟨hk.1.2, hk.2⟩)⟩, ⟨by (with_reducible repeat (first | apply Kd.R_alloc | apply Kd.R_drewN | apply Kd.R_drew)); exact Kd.R_mono HO142.out (fun _ hk => ⟨hk.1.2, hk.2⟩)⟩, ⟨bW⟩⟩
         case round =>
          clear H'
          try clear c1
          try clear p1
          try clear q1
          try clear hx1
          try clear c2
          try clear p2
          try clear c3
          try clear c3b0
          try clear c3b1
          try clear c4
          try clear c4b0
          try clear c5
          try clear c5b0
          try clear c6
          try clear c6b0
          try clear c6b1
          try clear p6
          try clear c7
          try clear c7b0
          try clear c7b1
          try clear p8
          try clear q8
          try clear hx8
          try clear qi8
          try clear hf8
          try clear c13
          try clear c13b0
          try clear c13b1
          try clear p13
          try clear q13
          try clear hx13
          try clear c15
          try clear c15b0
          try clear c16
          try clear c16b0
          try clear p17
          try clear q17
          try clear hx17
          try clear hf17
          try clear c25
          try clear c25b0
          try clear c25b1
          try clear c26
          try clear hx131_0
          try clear hx131_1
          try clear hx133_0
          try clear hx133_1
          try clear hx17_0
          try clear hx8_0
          try clear p1
          try clear p13
          try clear p131
          try clear p133
          try clear p17
          try clear p2
          try clear p8
          try clear q1
          try clear q13
          try clear q131
          try clear q133
          try clear q17
          try clear q8
          obtain ⟨x5_2, x8_2, rfl, HA, HK2, HO_5, HO_6, HO_7, HB⟩ := hrel
          cases gk with
          | zero => exact absurd HA.out (by simp [spec_l13Contents.l0])
          | succ k2 =>
           have H := HA.out
           clear HA
           simp only [spec_l13Contents.l0] at H
           by_cases c32 : x8_2 < 256
           ·rw [if_pos c32] at H
            have c32b0 : decide (x8_2 < 256) = true := decide_eq_true c32
            clear c32
            by_cases c33 : 0 ≤ a1
            ·rw [if_pos c33] at H
             have c33b0 : decide (0 ≤ a1) = true := decide_eq_true c33
             clear c33
             by_cases c34 : a1 < (l0.length : Int)
             ·rw [if_pos c34] at H
              have c34b0 : decide (a1 < (l0.length : Int)) = true := decide_eq_true c34
              clear c34
              by_cases c35 : ((rd_T50 l0 a1).f0) = 3
              ·rw [if_pos c35] at H
               have c35b0 : (((rd_T50 l0 a1).f0) == 3) = true := beq_iff_eq.mpr c35
               have c35b1 : (((rd_T50 l0 a1).f0) != 3) = false := bne_eq_false_iff_eq.mpr c35
               clear c35
               by_cases c36 : 0 ≤ x8_2
               ·rw [if_pos c36] at H
                have c36b0 : decide (0 ≤ x8_2) = true := decide_eq_true c36
                clear c36
                by_cases c37 : x8_2 < (t136.length : Int)
                ·rw [if_pos c37] at H
                 have c37b0 : decide (x8_2 < (t136.length : Int)) = true := decide_eq_true c37
                 clear c37
                 obtain ⟨bq38, hbq38⟩ : ∃ b_ : Bool, b_ = (rdOf false t136 x8_2) := ⟨_, rfl⟩
                 replace H : (if bq38 = true then (if x8_2 < (x5_2.length : Int) then (spec_l13Contents.l0 k2 l0 a1 (x5_2.set (x8_2 : Int).toNat true) t136 t140 (wrap64 (x8_2 + 1))) else (none)) else (if x8_2 < (t140.length : Int) then (if x8_2 < (x5_2.length : Int) then (spec_l13Contents.l0 k2 l0 a1 (x5_2.set (x8_2 : Int).toNat (rdOf false t140 x8_2)) t136 t140 (wrap64 (x8_2 + 1))) else (none)) else (none))) = some r := by rw [← hbq38] at H; exact H
                 have Nbq38 := Aside0.mk hbq38
                 clear hbq38
                 by_cases c39 : bq38 = true
                 ·subst c39
                  have H1 : (if x8_2 < (x5_2.length : Int) then (spec_l13Contents.l0 k2 l0 a1 (x5_2.set (x8_2 : Int).toNat true) t136 t140 (wrap64 (x8_2 + 1))) else (none)) = some r := by rw [if_pos rfl] at H; exact H
                  clear H
                  have H := H1
                  clear H1
                  by_cases c40 : x8_2 < (x5_2.length : Int)
                  ·rw [if_pos c40] at H
                   have c40b0 : decide (x8_2 < (x5_2.length : Int)) = true := decide_eq_true c40
                   clear c40
                   obtain ⟨y145, hy145⟩ : ∃ y_ : List Bool, y_ = (x5_2.set (x8_2 : Int).toNat true) := ⟨_, rfl⟩
                   replace H : (spec_l13Contents.l0 k2 l0 a1 y145 t136 t140 (wrap64 (x8_2 + 1))) = some r := by first | (rw [hy145]; with_reducible exact H) | (have H2_ := (Option.bind_some _ _).symm.trans H; rw [hy145]; with_reducible exact H2_) | (have H2_ := (Option.bind_some _ _).symm.trans H; with_reducible exact H2_) | with_reducible exact H | (rw [hy145]; exact H) | exact H
                   have Ny145 := Aside0.mk hy145
                   clear hy145
                   have H' := Aside0.mk H
                   clear H
                   have p143 : 0 ≤ (a1 : Int) := ofD
                   have q143 : a1 < (l0.length : Int) := ofD
                   obtain ⟨ad143, e143, hx143_0, hx143_1⟩ := at_T50 HR0.out a1 p143 q143
                   obtain rfl : ad131 = ad143 := (by injection e143)
                   replace hx143_0 := (HB.out.cell (World.block_lt_of_cell? w _ hx143_0)).trans hx143_0
                   replace hx143_1 := (HB.out.cell (World.block_lt_of_cell? w _ hx143_1)).trans hx143_1
                   replace p143 := eq_true p143
                   replace q143 := eq_true q143
                   obtain ⟨Ao42, co42, eo42⟩ := Kd.R_slice HO_6.out
                   subst eo42
                   have p144 : 0 ≤ (x8_2 : Int) := ofD
                   have q144 : x8_2 < (t136.length : Int) := ofD
                   obtain ⟨ad144, e144, hx144_0⟩ := Kd.at_bool (Kd.R_reads' HO_6.out).2.2 x8_2 p144 q144
                   (try rw [← Nbq38.out] at hx144_0)
                   cases e144
                   replace p144 := eq_true p144
                   replace q144 := eq_true q144
                   have p41 : 0 ≤ (x8_2 : Int) := ofD
                   have q41 : (x8_2 : Int) < ((x5_2.length : Int) : Int) := ofD
                   obtain ⟨go41, co41, eo41, gb41, gl41, cl41, HG41⟩ := Kd.R_form HO_5.out (by omega)
                   (first | cases eo41 | (injection eo41 with ea_ en_ ec_; (first | subst ea_ | (injection ea_ with ea_; subst ea_)); subst ec_; clear en_))
                   have GB41 := Aside0.mk gb41
                   have GG41 := Aside0.mk HG41
                   clear gb41 gl41 HG41
                   obtain ⟨hx41_0, hf41_0⟩ := Kd.R_celln false HO_5.out (x8_2 : Int) p41 q41
                   replace p41 := eq_true p41
                   replace q41 := eq_true q41
                   have HP43 := Kd.R_putg HO_5.out (x8_2 : Int) true
                   go_wp2_with (first | ((with_reducible refine gate_store (t := 4) (p := 69) rfl ?_); refine storeS (t := 4) (p := 69) (w1 := (wr.setCell ⟨go41, (x8_2 : Int).toNat, none⟩ (.bool true))) ?_; intro w44 hw; have hg : wr.grownBy w44 (some go41) := (by rw [hw]; exact HP43.2); have hp_ : Kd.R Kd.bool 4 w44 w.heap.size (fun k_ => some k_ ≠ (.slice (some ad144) t136.length co42 : Value).ownBlock ∧ some k_ ≠ (v141 : Value).ownBlock) (.slice (some ⟨go41, 0, none⟩) x5_2.length co41) y145 := (by rw [hw, Ny145.out]; exact HP43.1); clear HP43; have n0_ := Aside0.mk (hp_); have n1_ := Aside0.mk (Kd.R_after (v := (.slice (some ⟨go41, 0, none⟩) x5_2.length co41)) (v1 := (.slice (some ⟨go41, 0, none⟩) x5_2.length co41)) (ok := (fun k_ => some k_ ≠ (v141 : Value).ownBlock)) (by (with_reducible repeat (first | apply Kd.R_alloc | apply Kd.R_drewN | apply Kd.R_drew)); exact Kd.R_mono HO_6.out (fun _ hk => ⟨hk.2, hk.1⟩)) hg (.inl rfl)); have n2_ := Aside0.mk (Kd.R_after (v := (.slice (some ⟨go41, 0, none⟩) x5_2.length co41)) (v1 := (.slice (some ⟨go41, 0, none⟩) x5_2.length co41)) (ok := (fun k_ => some k_ ≠ (.slice (some ad144) t136.length co42 : Value).ownBlock)) (by (with_reducible repeat (first | apply Kd.R_alloc | apply Kd.R_drewN | apply Kd.R_drew)); exact Kd.R_mono HO_7.out (fun _ hk => ⟨hk.2, hk.1⟩)) hg (.inl rfl)); have n3_ := Aside0.mk ((by rw [hw]; exact below_set (HB.out) GB41.out : Below w.heap.size w w44)); clear HO_5 HO_6 HO_7 HB; have HO_5 := n0_; have HO_6 := n1_; have HO_7 := n2_; have HB := n3_; clear n0_ n1_ n2_ n3_ hg hw hp_))
                   go_roundg k2
                   case measure => have := HJ21.out; have := HK2.out; omega
                   case rel => exact ⟨(y145), (wrap64 (x8_2 + 1)), (eW), H', ⟨by have := HJ21.out; have := HK2.out; omega⟩, ⟨(rP HO_5.out)⟩, ⟨by (with_reducible repeat (first | apply Kd.R_alloc | apply Kd.R_drewN | apply Kd.R_drew)); exact Kd.R_mono HO_6.out (fun _ hk => ⟨hk.2, hk.1⟩)⟩, ⟨by (with_reducible repeat (first | apply Kd.R_alloc | apply Kd.R_drewN | apply Kd.R_drew)); exact Kd.R_mono HO_7.out (fun _ hk => ⟨hk.2, hk.1⟩)⟩, ⟨bW⟩⟩
                  ·rw [if_neg c40] at H
                   exact absurd H (by simp)
                 ·replace c39 := Bool.eq_false_iff.mpr c39
                  subst c39
                  have H1 : (if x8_2 < (t140.length : Int) then (if x8_2 < (x5_2.length : Int) then (spec_l13Contents.l0 k2 l0 a1 (x5_2.set (x8_2 : Int).toNat (rdOf false t140 x8_2)) t136 t140 (wrap64 (x8_2 + 1))) else (none)) else (none)) = some r := by rw [if_neg (show ¬ (false = true) by decide)] at H; exact H
                  clear H
                  have H := H1
                  clear H1
                  by_cases c45 : x8_2 < (t140.length : Int)
                  ·rw [if_pos c45] at H
                   have c45b0 : decide (x8_2 < (t140.length : Int)) = true := decide_eq_true c45
                   clear c45
                   by_cases c46 : x8_2 < (x5_2.length : Int)
                   ·rw [if_pos c46] at H
                    have c46b0 : decide (x8_2 < (x5_2.length : Int)) = true := decide_eq_true c46
                    clear c46
                    obtain ⟨y147, hy147⟩ : ∃ y_ : List Bool, y_ = (x5_2.set (x8_2 : Int).toNat (rdOf false t140 x8_2)) := ⟨_, rfl⟩
                    replace H : (spec_l13Contents.l0 k2 l0 a1 y147 t136 t140 (wrap64 (x8_2 + 1))) = some r := by first | (rw [hy147]; with_reducible exact H) | (have H2_ := (Option.bind_some _ _).symm.trans H; rw [hy147]; with_reducible exact H2_) | (have H2_ := (Option.bind_some _ _).symm.trans H; with_reducible exact H2_) | with_reducible exact H | (rw [hy147]; exact H) | exact H
                    have Ny147 := Aside0.mk hy147
                    clear hy147
                    have H' := Aside0.mk H
                    clear H
                    have p143 : 0 ≤ (a1 : Int) := ofD
                    have q143 : a1 < (l0.length : Int) := ofD
                    obtain ⟨ad143, e143, hx143_0, hx143_1⟩ := at_T50 HR0.out a1 p143 q143
                    obtain rfl : ad131 = ad143 := (by injection e143)
                    replace hx143_0 := (HB.out.cell (World.block_lt_of_cell? w _ hx143_0)).trans hx143_0
                    replace hx143_1 := (HB.out.cell (World.block_lt_of_cell? w _ hx143_1)).trans hx143_1
                    replace p143 := eq_true p143
                    replace q143 := eq_true q143
                    obtain ⟨Ao48, co48, eo48⟩ := Kd.R_slice HO_6.out
                    subst eo48
                    have p144 : 0 ≤ (x8_2 : Int) := ofD
                    have q144 : x8_2 < (t136.length : Int) := ofD
                    obtain ⟨ad144, e144, hx144_0⟩ := Kd.at_bool (Kd.R_reads' HO_6.out).2.2 x8_2 p144 q144
                    (try rw [← Nbq38.out] at hx144_0)
                    cases e144
                    replace p144 := eq_true p144
                    replace q144 := eq_true q144
                    obtain ⟨Ao49, co49, eo49⟩ := Kd.R_slice HO_7.out
                    subst eo49
                    have p146 : 0 ≤ (x8_2 : Int) := ofD
                    have q146 : x8_2 < (t140.length : Int) := ofD
                    obtain ⟨ad146, e146, hx146_0⟩ := Kd.at_bool (Kd.R_reads' HO_7.out).2.2 x8_2 p146 q146
                    (try rw [← Nbq38.out] at hx146_0)
                    cases e146
                    replace p146 := eq_true p146
                    replace q146 := eq_true q146
                    have p47 : 0 ≤ (x8_2 : Int) := ofD
                    have q47 : (x8_2 : Int) < ((x5_2.length : Int) : Int) := ofD
                    obtain ⟨go47, co47, eo47, gb47, gl47, cl47, HG47⟩ := Kd.R_form HO_5.out (by omega)
                    (first | cases eo47 | (injection eo47 with ea_ en_ ec_; (first | subst ea_ | (injection ea_ with ea_; subst ea_)); subst ec_; clear en_))
                    have GB47 := Aside0.mk gb47
                    have GG47 := Aside0.mk HG47
                    clear gb47 gl47 HG47
                    obtain ⟨hx47_0, hf47_0⟩ := Kd.R_celln false HO_5.out (x8_2 : Int) p47 q47
                    replace p47 := eq_true p47
                    replace q47 := eq_true q47
                    have HP50 := Kd.R_putg HO_5.out (x8_2 : Int) (rdOf false t140 x8_2)
                    go_wp2_with (first | ((with_reducible refine gate_store (t := 4) (p := 69) rfl ?_); refine storeS (t := 4) (p := 69) (w1 := (wr.setCell ⟨go47, (x8_2 : Int).toNat, none⟩ (.bool (rdOf false t140 x8_2)))) ?_; intro w51 hw; have hg : wr.grownBy w51 (some go47) := (by rw [hw]; exact HP50.2); have hp_ : Kd.R Kd.bool 4 w51 w.heap.size (fun k_ => some k_ ≠ (.slice (some ad144) t136.length co48 : Value).ownBlock ∧ some k_ ≠ (.slice (some ad146) t140.length co49 : Value).ownBlock) (.slice (some ⟨go47, 0, none⟩) x5_2.length co47) y147 := (by rw [hw, Ny147.out]; exact HP50.1); clear HP50; have n0_ := Aside0.mk (hp_); have n1_ := Aside0.mk (Kd.R_after (v := (.slice (some ⟨go47, 0, none⟩) x5_2.length co47)) (v1 := (.slice (some ⟨go47, 0, none⟩) x5_2.length co47)) (ok := (fun k_ => some k_ ≠ (.slice (some ad146) t140.length co49 : Value).ownBlock)) (by (with_reducible repeat (first | apply Kd.R_alloc | apply Kd.R_drewN | apply Kd.R_drew)); exact Kd.R_mono HO_6.out (fun _ hk => ⟨hk.2, hk.1⟩)) hg (.inl rfl)); have n2_ := Aside0.mk (Kd.R_after (v := (.slice (some ⟨go47, 0, none⟩) x5_2.length co47)) (v1 := (.slice (some ⟨go47, 0, none⟩) x5_2.length co47)) (ok := (fun k_ => some k_ ≠ (.slice (some ad144) t136.length co48 : Value).ownBlock)) (by (with_reducible repeat (first | apply Kd.R_alloc | apply Kd.R_drewN | apply Kd.R_drew)); exact Kd.R_mono HO_7.out (fun _ hk => ⟨hk.2, hk.1⟩)) hg (.inl rfl)); have n3_ := Aside0.mk ((by rw [hw]; exact below_set (HB.out) GB47.out : Below w.heap.size w w51)); clear HO_5 HO_6 HO_7 HB; have HO_5 := n0_; have HO_6 := n1_; have HO_7 := n2_; have HB := n3_; clear n0_ n1_ n2_ n3_ hg hw hp_))
                    go_roundg k2
                    case measure => have := HJ21.out; have := HK2.out; omega
                    case rel => exact ⟨(y147), (wrap64 (x8_2 + 1)), (eW), H', ⟨by have := HJ21.out; have := HK2.out; omega⟩, ⟨(rP HO_5.out)⟩, ⟨by (with_reducible repeat (first | apply Kd.R_alloc | apply Kd.R_drewN | apply Kd.R_drew)); exact Kd.R_mono HO_6.out (fun _ hk => ⟨hk.2, hk.1⟩)⟩, ⟨by (with_reducible repeat (first | apply Kd.R_alloc | apply Kd.R_drewN | apply Kd.R_drew)); exact Kd.R_mono HO_7.out (fun _ hk => ⟨hk.2, hk.1⟩)⟩, ⟨bW⟩⟩
                   ·rw [if_neg c46] at H
                    exact absurd H (by simp)
                  ·rw [if_neg c45] at H
                   exact absurd H (by simp)
                ·rw [if_neg c37] at H
                 exact absurd H (by simp)
               ·rw [if_neg c36] at H
                exact absurd H (by simp)
              ·rw [if_neg c35] at H
               have c35b0 : (((rd_T50 l0 a1).f0) == 3) = false := beq_eq_false_iff_ne.mpr c35
               have c35b1 : (((rd_T50 l0 a1).f0) != 3) = true := bne_iff_ne.mpr c35
               have H' := Aside0.mk H
               clear H
               have p143 : 0 ≤ (a1 : Int) := ofD
               have q143 : a1 < (l0.length : Int) := ofD
               obtain ⟨ad143, e143, hx143_0, hx143_1⟩ := at_T50 HR0.out a1 p143 q143
               obtain rfl : ad131 = ad143 := (by injection e143)
               replace hx143_0 := (HB.out.cell (World.block_lt_of_cell? w _ hx143_0)).trans hx143_0
               replace hx143_1 := (HB.out.cell (World.block_lt_of_cell? w _ hx143_1)).trans hx143_1
               replace p143 := eq_true p143
               replace q143 := eq_true q143
               go_wp2
               go_loopg [9] k2 (fun kq v9 w' => ∃ (x5_3 : List Bool) (x9_3 : Int), v9 = .int .i64 x9_3 ∧ Aside0 (spec_l13Contents.l1 kq l0 a1 x5_3 t136 t140 x8_2 x9_3 = some r) ∧ Aside0 (kq ≤ k2) ∧ Aside0 (Kd.R Kd.bool 4 w' w.heap.size (fun k_ => some k_ ≠ (v137 : Value).ownBlock ∧ some k_ ≠ (v141 : Value).ownBlock) v129 x5_3) ∧ Aside0 (Kd.R Kd.bool 4 w' w.heap.size (fun k_ => some k_ ≠ (v129 : Value).ownBlock ∧ some k_ ≠ (v141 : Value).ownBlock) v137 t136) ∧ Aside0 (Kd.R Kd.bool 4 w' w.heap.size (fun k_ => some k_ ≠ (v129 : Value).ownBlock ∧ some k_ ≠ (v137 : Value).ownBlock) v141 t140) ∧ Aside0 (Below w.heap.size w w'))
               case atStart => exact ⟨(x5_2), (0), (eW), H', ⟨Nat.le_refl _⟩, ⟨(rP HO_5.out)⟩, ⟨(rP HO_6.out)⟩, ⟨(rP HO_7.out)⟩, ⟨bW⟩⟩
               case round =>
                clear H'
                try clear c1
                try clear p1
                try clear q1
                try clear hx1
                try clear c2
                try clear p2
                try clear c3
                try clear c3b0
                try clear c3b1
                try clear q3
                try clear c4
                try clear c4b0
                try clear p4
                try clear q4
                try clear hx4
                try clear hf4
                try clear c5
                try clear c5b0
                try clear c6
                try clear c6b0
                try clear c6b1
                try clear p6
                try clear c7
                try clear c7b0
                try clear c7b1
                try clear p8
                try clear q8
                try clear hx8
                try clear qi8
                try clear hf8
                try clear c13
                try clear c13b0
                try clear c13b1
                try clear p13
                try clear q13
                try clear hx13
                try clear p14
                try clear q14
                try clear hx14
                try clear c15
                try clear c15b0
                try clear c16
                try clear c16b0
                try clear p17
                try clear q17
                try clear hx17
                try clear hf17
                try clear c25
                try clear c25b0
                try clear c25b1
                try clear c26
                try clear c32
                try clear c32b0
                try clear c33
                try clear c33b0
                try clear c34
                try clear c34b0
                try clear c35
                try clear c35b0
                try clear c35b1
                try clear c36
                try clear c36b0
                try clear c37
                try clear c37b0
                try clear q38
                try clear c39
                try clear c40
                try clear c40b0
                try clear p41
                try clear q41
                try clear hx41
                try clear hf41
                try clear c45
                try clear c45b0
                try clear c46
                try clear c46b0
                try clear p47
                try clear q47
                try clear hx47
                try clear hf47
                try clear hx131_0
                try clear hx131_1
                try clear hx133_0
                try clear hx133_1
                try clear hx143_0
                try clear hx143_1
                try clear hx144_0
                try clear hx146_0
                try clear hx17_0
                try clear hx41_0
                try clear hx47_0
                try clear hx8_0
                try clear p1
                try clear p13
                try clear p131
                try clear p133
                try clear p143
                try clear p144
                try clear p146
                try clear p17
                try clear p2
                try clear p41
                try clear p47
                try clear p6
                try clear p8
                try clear q1
                try clear q13
                try clear q131
                try clear q133
                try clear q143
                try clear q144
                try clear q146
                try clear q17
                try clear q41
                try clear q47
                try clear q8
                obtain ⟨x5_3, x9_3, rfl, HA, HK3, HO_5, HO_6, HO_7, HB⟩ := hrel
                cases gk with
                | zero => exact absurd HA.out (by simp [spec_l13Contents.l1])
                | succ k3 =>
                 have H := HA.out
                 clear HA
                 simp only [spec_l13Contents.l1] at H
                 by_cases c52 : x9_3 < 256
                 ·rw [if_pos c52] at H
                  have c52b0 : decide (x9_3 < 256) = true := decide_eq_true c52
                  clear c52
                  by_cases c53 : 0 ≤ x8_2
                  ·rw [if_pos c53] at H
                   have c53b0 : decide (0 ≤ x8_2) = true := decide_eq_true c53
                   clear c53
                   by_cases c54 : x8_2 < (t136.length : Int)
                   ·rw [if_pos c54] at H
                    have c54b0 : decide (x8_2 < (t136.length : Int)) = true := decide_eq_true c54
                    clear c54
                    obtain ⟨bq55, hbq55⟩ : ∃ b_ : Bool, b_ = (rdOf false t136 x8_2) := ⟨_, rfl⟩
                    replace H : (if bq55 = true then (if 0 ≤ (Go.bits .or .i64 x8_2 x9_3) then (if (Go.bits .or .i64 x8_2 x9_3) < (x5_3.length : Int) then (if rdOf false x5_3 (Go.bits .or .i64 x8_2 x9_3) = true then (spec_l13Contents.l1 k3 l0 a1 (x5_3.set ((Go.bits .or .i64 x8_2 x9_3) : Int).toNat true) t136 t140 x8_2 (wrap64 (x9_3 + 1))) else (if 0 ≤ x9_3 then (if x9_3 < (t140.length : Int) then (spec_l13Contents.l1 k3 l0 a1 (x5_3.set ((Go.bits .or .i64 x8_2 x9_3) : Int).toNat (rdOf false t140 x9_3)) t136 t140 x8_2 (wrap64 (x9_3 + 1))) else (none)) else (none))) else (none)) else (none)) else (spec_l13Contents.l0 k3 l0 a1 x5_3 t136 t140 (wrap64 (x8_2 + 1)))) = some r := by rw [← hbq55] at H; exact H
                    have Nbq55 := Aside0.mk hbq55
                    clear hbq55
                    by_cases c56 : bq55 = true
                    ·subst c56
                     have H1 : (if 0 ≤ (Go.bits .or .i64 x8_2 x9_3) then (if (Go.bits .or .i64 x8_2 x9_3) < (x5_3.length : Int) then (if rdOf false x5_3 (Go.bits .or .i64 x8_2 x9_3) = true then (spec_l13Contents.l1 k3 l0 a1 (x5_3.set ((Go.bits .or .i64 x8_2 x9_3) : Int).toNat true) t136 t140 x8_2 (wrap64 (x9_3 + 1))) else (if 0 ≤ x9_3 then (if x9_3 < (t140.length : Int) then (spec_l13Contents.l1 k3 l0 a1 (x5_3.set ((Go.bits .or .i64 x8_2 x9_3) : Int).toNat (rdOf false t140 x9_3)) t136 t140 x8_2 (wrap64 (x9_3 + 1))) else (none)) else (none))) else (none)) else (none)) = some r := by rw [if_pos rfl] at H; exact H
                     clear H
                     have H := H1
                     clear H1
                     by_cases c57 : 0 ≤ (Go.bits .or .i64 x8_2 x9_3)
                     ·rw [if_pos c57] at H
                      have c57b0 : decide (0 ≤ (Go.bits .or .i64 x8_2 x9_3)) = true := decide_eq_true c57
                      clear c57
                      by_cases c58 : (Go.bits .or .i64 x8_2 x9_3) < (x5_3.length : Int)
                      ·rw [if_pos c58] at H
                       have c58b0 : decide ((Go.bits .or .i64 x8_2 x9_3) < (x5_3.length : Int)) = true := decide_eq_true c58
                       clear c58
                       obtain ⟨bq59, hbq59⟩ : ∃ b_ : Bool, b_ = (rdOf false x5_3 (Go.bits .or .i64 x8_2 x9_3)) := ⟨_, rfl⟩
                       replace H : (if bq59 = true then (spec_l13Contents.l1 k3 l0 a1 (x5_3.set ((Go.bits .or .i64 x8_2 x9_3) : Int).toNat true) t136 t140 x8_2 (wrap64 (x9_3 + 1))) else (if 0 ≤ x9_3 then (if x9_3 < (t140.length : Int) then (spec_l13Contents.l1 k3 l0 a1 (x5_3.set ((Go.bits .or .i64 x8_2 x9_3) : Int).toNat (rdOf false t140 x9_3)) t136 t140 x8_2 (wrap64 (x9_3 + 1))) else (none)) else (none))) = some r := by rw [← hbq59] at H; exact H
                       have Nbq59 := Aside0.mk hbq59
                       clear hbq59
                       by_cases c60 : bq59 = true
                       ·subst c60
                        have H1 : (spec_l13Contents.l1 k3 l0 a1 (x5_3.set ((Go.bits .or .i64 x8_2 x9_3) : Int).toNat true) t136 t140 x8_2 (wrap64 (x9_3 + 1))) = some r := by rw [if_pos rfl] at H; exact H
                        clear H
                        have H := H1
                        clear H1
                        obtain ⟨y150, hy150⟩ : ∃ y_ : List Bool, y_ = (x5_3.set ((Go.bits .or .i64 x8_2 x9_3) : Int).toNat true) := ⟨_, rfl⟩
                        replace H : (spec_l13Contents.l1 k3 l0 a1 y150 t136 t140 x8_2 (wrap64 (x9_3 + 1))) = some r := by first | (rw [hy150]; with_reducible exact H) | (have H2_ := (Option.bind_some _ _).symm.trans H; rw [hy150]; with_reducible exact H2_) | (have H2_ := (Option.bind_some _ _).symm.trans H; with_reducible exact H2_) | with_reducible exact H | (rw [hy150]; exact H) | exact H
                        have Ny150 := Aside0.mk hy150
                        clear hy150
                        have H' := Aside0.mk H
                        clear H
                        obtain ⟨Ao62, co62, eo62⟩ := Kd.R_slice HO_6.out
                        subst eo62
                        have p148 : 0 ≤ (x8_2 : Int) := ofD
                        have q148 : x8_2 < (t136.length : Int) := ofD
                        obtain ⟨ad148, e148, hx148_0⟩ := Kd.at_bool (Kd.R_reads' HO_6.out).2.2 x8_2 p148 q148
                        (try rw [← Nbq55.out] at hx148_0)
                        (try rw [← Nbq59.out] at hx148_0)
                        cases e148
                        replace p148 := eq_true p148
                        replace q148 := eq_true q148
                        obtain ⟨Ao63, co63, eo63⟩ := Kd.R_slice HO_5.out
                        subst eo63
                        have p149 : 0 ≤ ((Go.bits .or .i64 x8_2 x9_3) : Int) := ofD
                        have q149 : (Go.bits .or .i64 x8_2 x9_3) < (x5_3.length : Int) := ofD
                        obtain ⟨ad149, e149, hx149_0⟩ := Kd.at_bool (Kd.R_reads' HO_5.out).2.2 (Go.bits .or .i64 x8_2 x9_3) p149 q149
                        (try rw [← Nbq55.out] at hx149_0)
                        (try rw [← Nbq59.out] at hx149_0)
                        cases e149
                        replace p149 := eq_true p149
                        replace q149 := eq_true q149
                        have p61 : 0 ≤ ((Go.bits .or .i64 x8_2 x9_3) : Int) := ofD
                        have q61 : ((Go.bits .or .i64 x8_2 x9_3) : Int) < ((x5_3.length : Int) : Int) := ofD
                        obtain ⟨go61, co61, eo61, gb61, gl61, cl61, HG61⟩ := Kd.R_form HO_5.out (by omega)
                        (first | cases eo61 | (injection eo61 with ea_ en_ ec_; (first | subst ea_ | (injection ea_ with ea_; subst ea_)); subst ec_; clear en_))
                        have GB61 := Aside0.mk gb61
                        have GG61 := Aside0.mk HG61
                        clear gb61 gl61 HG61
                        (first | simp only [add_plain] at hx149_0 | skip)
                        obtain ⟨hx61_0, hf61_0⟩ := Kd.R_celln false HO_5.out ((Go.bits .or .i64 x8_2 x9_3) : Int) p61 q61
                        replace p61 := eq_true p61
                        replace q61 := eq_true q61
                        have HP64 := Kd.R_putg HO_5.out ((Go.bits .or .i64 x8_2 x9_3) : Int) true
                        go_wp2_with (first | ((with_reducible refine gate_store (t := 4) (p := 96) rfl ?_); refine storeS (t := 4) (p := 96) (w1 := (wr.setCell ⟨go61, ((Go.bits .or .i64 x8_2 x9_3) : Int).toNat, none⟩ (.bool true))) ?_; intro w65 hw; have hg : wr.grownBy w65 (some go61) := (by rw [hw]; exact HP64.2); have hp_ : Kd.R Kd.bool 4 w65 w.heap.size (fun k_ => some k_ ≠ (.slice (some ad148) t136.length co62 : Value).ownBlock ∧ some k_ ≠ (v141 : Value).ownBlock) (.slice (some ⟨go61, 0, none⟩) x5_3.length co63) y150 := (by rw [hw, Ny150.out]; exact HP64.1); clear HP64; have n0_ := Aside0.mk (hp_); have n1_ := Aside0.mk (Kd.R_after (v := (.slice (some ⟨go61, 0, none⟩) x5_3.length co63)) (v1 := (.slice (some ⟨go61, 0, none⟩) x5_3.length co63)) (ok := (fun k_ => some k_ ≠ (v141 : Value).ownBlock)) (by (with_reducible repeat (first | apply Kd.R_alloc | apply Kd.R_drewN | apply Kd.R_drew)); exact Kd.R_mono HO_6.out (fun _ hk => ⟨hk.2, hk.1⟩)) hg (.inl rfl)); have n2_ := Aside0.mk (Kd.R_after (v := (.slice (some ⟨go61, 0, none⟩) x5_3.length co63)) (v1 := (.slice (some ⟨go61, 0, none⟩) x5_3.length co63)) (ok := (fun k_ => some k_ ≠ (.slice (some ad148) t136.length co62 : Value).ownBlock)) (by (with_reducible repeat (first | apply Kd.R_alloc | apply Kd.R_drewN | apply Kd.R_drew)); exact Kd.R_mono HO_7.out (fun _ hk => ⟨hk.2, hk.1⟩)) hg (.inl rfl)); have n3_ := Aside0.mk ((by rw [hw]; exact below_set (HB.out) GB61.out : Below w.heap.size w w65)); clear HO_5 HO_6 HO_7 HB; have HO_5 := n0_; have HO_6 := n1_; have HO_7 := n2_; have HB := n3_; clear n0_ n1_ n2_ n3_ hg hw hp_))
                        go_roundg k3
                        case measure => have := HJ21.out; have := HK2.out; have := HK3.out; omega
                        case rel => exact ⟨(y150), (wrap64 (x9_3 + 1)), (eW), H', ⟨by have := HJ21.out; have := HK2.out; have := HK3.out; omega⟩, ⟨(rP HO_5.out)⟩, ⟨by (with_reducible repeat (first | apply Kd.R_alloc | apply Kd.R_drewN | apply Kd.R_drew)); exact Kd.R_mono HO_6.out (fun _ hk => ⟨hk.2, hk.1⟩)⟩, ⟨by (with_reducible repeat (first | apply Kd.R_alloc | apply Kd.R_drewN | apply Kd.R_drew)); exact Kd.R_mono HO_7.out (fun _ hk => ⟨hk.2, hk.1⟩)⟩, ⟨bW⟩⟩
                       ·replace c60 := Bool.eq_false_iff.mpr c60
                        subst c60
                        have H1 : (if 0 ≤ x9_3 then (if x9_3 < (t140.length : Int) then (spec_l13Contents.l1 k3 l0 a1 (x5_3.set ((Go.bits .or .i64 x8_2 x9_3) : Int).toNat (rdOf false t140 x9_3)) t136 t140 x8_2 (wrap64 (x9_3 + 1))) else (none)) else (none)) = some r := by rw [if_neg (show ¬ (false = true) by decide)] at H; exact H
                        clear H
                        have H := H1
                        clear H1
                        by_cases c66 : 0 ≤ x9_3
                        ·rw [if_pos c66] at H
                         have c66b0 : decide (0 ≤ x9_3) = true := decide_eq_true c66
                         clear c66
                         by_cases c67 : x9_3 < (t140.length : Int)
                         ·rw [if_pos c67] at H
                          have c67b0 : decide (x9_3 < (t140.length : Int)) = true := decide_eq_true c67
                          clear c67
                          obtain ⟨y152, hy152⟩ : ∃ y_ : List Bool, y_ = (x5_3.set ((Go.bits .or .i64 x8_2 x9_3) : Int).toNat (rdOf false t140 x9_3)) := ⟨_, rfl⟩
                          replace H : (spec_l13Contents.l1 k3 l0 a1 y152 t136 t140 x8_2 (wrap64 (x9_3 + 1))) = some r := by first | (rw [hy152]; with_reducible exact H) | (have H2_ := (Option.bind_some _ _).symm.trans H; rw [hy152]; with_reducible exact H2_) | (have H2_ := (Option.bind_some _ _).symm.trans H; with_reducible exact H2_) | with_reducible exact H | (rw [hy152]; exact H) | exact H
                          have Ny152 := Aside0.mk hy152
                          clear hy152
                          have H' := Aside0.mk H
                          clear H
                          obtain ⟨Ao69, co69, eo69⟩ := Kd.R_slice HO_6.out
                          subst eo69
                          have p148 : 0 ≤ (x8_2 : Int) := ofD
                          have q148 : x8_2 < (t136.length : Int) := ofD
                          obtain ⟨ad148, e148, hx148_0⟩ := Kd.at_bool (Kd.R_reads' HO_6.out).2.2 x8_2 p148 q148
                          (try rw [← Nbq55.out] at hx148_0)
                          (try rw [← Nbq59.out] at hx148_0)
                          cases e148
                          replace p148 := eq_true p148
                          replace q148 := eq_true q148
                          obtain ⟨Ao70, co70, eo70⟩ := Kd.R_slice HO_5.out
                          subst eo70
                          have p149 : 0 ≤ ((Go.bits .or .i64 x8_2 x9_3) : Int) := ofD
                          have q149 : (Go.bits .or .i64 x8_2 x9_3) < (x5_3.length : Int) := ofD
                          obtain ⟨ad149, e149, hx149_0⟩ := Kd.at_bool (Kd.R_reads' HO_5.out).2.2 (Go.bits .or .i64 x8_2 x9_3) p149 q149
                          (try rw [← Nbq55.out] at hx149_0)
                          (try rw [← Nbq59.out] at hx149_0)
                          cases e149
                          replace p149 := eq_true p149
                          replace q149 := eq_true q149
                          obtain ⟨Ao71, co71, eo71⟩ := Kd.R_slice HO_7.out
                          subst eo71
                          have p151 : 0 ≤ (x9_3 : Int) := ofD
                          have q151 : x9_3 < (t140.length : Int) := ofD
                          obtain ⟨ad151, e151, hx151_0⟩ := Kd.at_bool (Kd.R_reads' HO_7.out).2.2 x9_3 p151 q151
                          (try rw [← Nbq55.out] at hx151_0)
                          (try rw [← Nbq59.out] at hx151_0)
                          cases e151
                          replace p151 := eq_true p151
                          replace q151 := eq_true q151
                          have p68 : 0 ≤ ((Go.bits .or .i64 x8_2 x9_3) : Int) := ofD
                          have q68 : ((Go.bits .or .i64 x8_2 x9_3) : Int) < ((x5_3.length : Int) : Int) := ofD
                          obtain ⟨go68, co68, eo68, gb68, gl68, cl68, HG68⟩ := Kd.R_form HO_5.out (by omega)
                          (first | cases eo68 | (injection eo68 with ea_ en_ ec_; (first | subst ea_ | (injection ea_ with ea_; subst ea_)); subst ec_; clear en_))
                          have GB68 := Aside0.mk gb68
                          have GG68 := Aside0.mk HG68
                          clear gb68 gl68 HG68
                          (first | simp only [add_plain] at hx149_0 | skip)
                          obtain ⟨hx68_0, hf68_0⟩ := Kd.R_celln false HO_5.out ((Go.bits .or .i64 x8_2 x9_3) : Int) p68 q68
                          replace p68 := eq_true p68
                          replace q68 := eq_true q68
                          have HP72 := Kd.R_putg HO_5.out ((Go.bits .or .i64 x8_2 x9_3) : Int) (rdOf false t140 x9_3)
                          go_wp2_with (first | ((with_reducible refine gate_store (t := 4) (p := 96) rfl ?_); refine storeS (t := 4) (p := 96) (w1 := (wr.setCell ⟨go68, ((Go.bits .or .i64 x8_2 x9_3) : Int).toNat, none⟩ (.bool (rdOf false t140 x9_3)))) ?_; intro w73 hw; have hg : wr.grownBy w73 (some go68) := (by rw [hw]; exact HP72.2); have hp_ : Kd.R Kd.bool 4 w73 w.heap.size (fun k_ => some k_ ≠ (.slice (some ad148) t136.length co69 : Value).ownBlock ∧ some k_ ≠ (.slice (some ad151) t140.length co71 : Value).ownBlock) (.slice (some ⟨go68, 0, none⟩) x5_3.length co70) y152 := (by rw [hw, Ny152.out]; exact HP72.1); clear HP72; have n0_ := Aside0.mk (hp_); have n1_ := Aside0.mk (Kd.R_after (v := (.slice (some ⟨go68, 0, none⟩) x5_3.length co70)) (v1 := (.slice (some ⟨go68, 0, none⟩) x5_3.length co70)) (ok := (fun k_ => some k_ ≠ (.slice (some ad151) t140.length co71 : Value).ownBlock)) (by (with_reducible repeat (first | apply Kd.R_alloc | apply Kd.R_drewN | apply Kd.R_drew)); exact Kd.R_mono HO_6.out (fun _ hk => ⟨hk.2, hk.1⟩)) hg (.inl rfl)); have n2_ := Aside0.mk (Kd.R_after (v := (.slice (some ⟨go68, 0, none⟩) x5_3.length co70)) (v1 := (.slice (some ⟨go68, 0, none⟩) x5_3.length co70)) (ok := (fun k_ => some k_ ≠ (.slice (some ad148) t136.length co69 : Value).ownBlock)) (by (with_reducible repeat (first | apply Kd.R_alloc | apply Kd.R_drewN | apply Kd.R_drew)); exact Kd.R_mono HO_7.out (fun _ hk => ⟨hk.2, hk.1⟩)) hg (.inl rfl)); have n3_ := Aside0.mk ((by rw [hw]; exact below_set (HB.out) GB68.out : Below w.heap.size w w73)); clear HO_5 HO_6 HO_7 HB; have HO_5 := n0_; have HO_6 := n1_; have HO_7 := n2_; have HB := n3_; clear n0_ n1_ n2_ n3_ hg hw hp_))
                          go_roundg k3
                          case measure => have := HJ21.out; have := HK2.out; have := HK3.out; omega
                          case rel => exact ⟨(y152), (wrap64 (x9_3 + 1)), (eW), H', ⟨by have := HJ21.out; have := HK2.out; have := HK3.out; omega⟩, ⟨(rP HO_5.out)⟩, ⟨by (with_reducible repeat (first | apply Kd.R_alloc | apply Kd.R_drewN | apply Kd.R_drew)); exact Kd.R_mono HO_6.out (fun _ hk => ⟨hk.2, hk.1⟩)⟩, ⟨by (with_reducible repeat (first | apply Kd.R_alloc | apply Kd.R_drewN | apply Kd.R_drew)); exact Kd.R_mono HO_7.out (fun _ hk => ⟨hk.2, hk.1⟩)⟩, ⟨bW⟩⟩
                         ·rw [if_neg c67] at H
                          exact absurd H (by simp)
                        ·rw [if_neg c66] at H
                         exact absurd H (by simp)
                      ·rw [if_neg c58] at H
                       exact absurd H (by simp)
                     ·rw [if_neg c57] at H
                      exact absurd H (by simp)
                    ·replace c56 := Bool.eq_false_iff.mpr c56
                     subst c56
                     have H1 : (spec_l13Contents.l0 k3 l0 a1 x5_3 t136 t140 (wrap64 (x8_2 + 1))) = some r := by rw [if_neg (show ¬ (false = true) by decide)] at H; exact H
                     clear H
                     have H := H1
                     clear H1
                     have H' := Aside0.mk H
                     clear H
                     obtain ⟨Ao74, co74, eo74⟩ := Kd.R_slice HO_6.out
                     subst eo74
                     have p148 : 0 ≤ (x8_2 : Int) := ofD
                     have q148 : x8_2 < (t136.length : Int) := ofD
                     obtain ⟨ad148, e148, hx148_0⟩ := Kd.at_bool (Kd.R_reads' HO_6.out).2.2 x8_2 p148 q148
                     (try rw [← Nbq55.out] at hx148_0)
                     cases e148
                     replace p148 := eq_true p148
                     replace q148 := eq_true q148
                     go_wp2
                     go_roundg k3
                     case measure => have := HJ21.out; have := HK2.out; have := HK3.out; omega
                     case rel => exact ⟨(x5_3), (wrap64 (x8_2 + 1)), (eW), H', ⟨by have := HJ21.out; have := HK2.out; have := HK3.out; omega⟩, ⟨(rP HO_5.out)⟩, ⟨(rP HO_6.out)⟩, ⟨(rP HO_7.out)⟩, ⟨bW⟩⟩
                   ·rw [if_neg c54] at H
                    exact absurd H (by simp)
                  ·rw [if_neg c53] at H
                   exact absurd H (by simp)
                 ·rw [if_neg c52] at H
                  have c52b0 : decide (x9_3 < 256) = false := decide_eq_false c52
                  clear c52
                  have H' := Aside0.mk H
                  clear H
                  go_wp2
                  go_roundg k3
                  case measure => have := HJ21.out; have := HK2.out; have := HK3.out; omega
                  case rel => exact ⟨(x5_3), (wrap64 (x8_2 + 1)), (eW), H', ⟨by have := HJ21.out; have := HK2.out; have := HK3.out; omega⟩, ⟨(rP HO_5.out)⟩, ⟨(rP HO_6.out)⟩, ⟨(rP HO_7.out)⟩, ⟨bW⟩⟩
             ·rw [if_neg c34] at H
              exact absurd H (by simp)
            ·rw [if_neg c33] at H
             exact absurd H (by simp)
           ·rw [if_neg c32] at H
            have c32b0 : decide (x8_2 < 256) = false := decide_eq_false c32
            clear c32
            obtain rfl := Option.some.inj H
            go_wp2
            go_ret
            exact ⟨_, eW, by (with_reducible repeat (first | apply Kd.R_alloc | apply Kd.R_drewN | apply Kd.R_drew)); exact Kd.R_mono HO_5.out (fun _ hk => trivial), bW⟩
        ·replace c26 := Bool.eq_false_iff.mpr c26
         subst c26
         have H1 : (if ((rd_T50 l0 a1).f0) = 5 then ((spec_l13Contents.f kj21 l0 (wrap64 (a1 + 1))).bind fun t153 => (if 0 < (y128.length : Int) then (spec_l13Contents.l2 kj21 (y128.set (0 : Int).toNat true) t153 true) else (none))) else (some y128)) = some r := by rw [if_neg (show ¬ (false = true) by decide)] at H; exact H
         clear H
         have H := H1
         clear H1
         by_cases c75 : ((rd_T50 l0 a1).f0) = 5
         ·rw [if_pos c75] at H
          have c75b0 : (((rd_T50 l0 a1).f0) == 5) = true := beq_iff_eq.mpr c75
          have c75b1 : (((rd_T50 l0 a1).f0) != 5) = false := bne_eq_false_iff_eq.mpr c75
          clear c75
          replace H := Option.bind_eq_some_iff.mp H
          obtain ⟨t153, A760, H⟩ := H
          replace H : (if 0 < (y128.length : Int) then (spec_l13Contents.l2 kj21 (y128.set (0 : Int).toNat true) t153 true) else (none)) = some r := H
          have A76 := Aside0.mk A760
          clear A760
          by_cases c77 : 0 < (y128.length : Int)
          ·rw [if_pos c77] at H
           have c77b0 : decide (0 < (y128.length : Int)) = true := decide_eq_true c77
           have c77b1 : decide (0 < y128.length) = true := decide_eq_true (by omega)
           clear c77
           obtain ⟨y156, hy156⟩ : ∃ y_ : List Bool, y_ = (y128.set (0 : Int).toNat true) := ⟨_, rfl⟩
           replace H : (spec_l13Contents.l2 kj21 y156 t153 true) = some r := by first | (rw [hy156]; with_reducible exact H) | (have H2_ := (Option.bind_some _ _).symm.trans H; rw [hy156]; with_reducible exact H2_) | (have H2_ := (Option.bind_some _ _).symm.trans H; with_reducible exact H2_) | with_reducible exact H | (rw [hy156]; exact H) | exact H
           have Ny156 := Aside0.mk hy156
           clear hy156
           have H' := Aside0.mk H
           clear H
           go_wp2_with (first | ((with_reducible refine gate_callee (f := 25) rfl ?_); refine goesS (some 102) Tryd.func25 #[.slice (some ad131) l0.length c0, .int .i64 (wrap64 (a1 + 1))] ?_; (with_reducible refine (ih kj21 (by have := HJ21.out; omega) _ _ l0 (wrap64 (a1 + 1)) t153 _ ?side1 ?side2 A76.out).mono ?_); (case side1 => exact cP (Kd.C_below HR0.out HB.out)); (case side2 => exact HC0.out); rintro e w79 ⟨v154, rfl, ho0, hb⟩; refine ⟨_, rfl, ?_⟩; have n0_ := Aside0.mk (Kd.R_elder' (rP HO_5.out) (Kd.R_base ho0) hb); have n1_ := Aside0.mk (Kd.R_lower (Kd.R_new' ho0 (Kd.R_lt (rP HO_5.out))) (below_size (bW))); have n2_ := Aside0.mk (below_step (bW) hb); clear HO_5 HB; have HO_5 := n0_; have HO155 := n1_; have HB := n2_; clear n0_ n1_ n2_; (try clear hb); (try clear hb2); (try clear hk); (try clear hi); (try clear ho0); have p78 : 0 ≤ (0 : Int) := (by omega); have q78 : (0 : Int) < ((y128.length : Int) : Int) := ofD; have qi78 : (0 < y128.length) = True := eq_true (by omega); obtain ⟨go78, co78, eo78, gb78, gl78, cl78, HG78⟩ := Kd.R_form HO_5.out (by omega); (first | cases eo78 | (injection eo78 with ea_ en_ ec_; (first | subst ea_ | (injection ea_ with ea_; subst ea_)); subst ec_; clear en_)); have GB78 := Aside0.mk gb78; have GG78 := Aside0.mk HG78; clear gb78 gl78 HG78; obtain ⟨hx78_0, hf78_0⟩ := Kd.R_celln false HO_5.out (0 : Int) p78 q78; (try rw [show ((0 : Int)).toNat = 0 from rfl] at hx78_0); (try simp only [Nat.reduceMul, Nat.zero_mul, Nat.zero_add, Nat.reduceAdd] at hx78_0); (try rw [show ((0 : Int)).toNat = 0 from rfl] at hf78_0); (try simp only [Nat.reduceMul, Nat.zero_mul, Nat.zero_add, Nat.reduceAdd] at hf78_0); replace p78 := eq_true p78; replace q78 := eq_true q78; have n_ := Aside0.mk (Kd.R_mono (ok' := (fun k_ => some k_ ≠ (v154 : Value).ownBlock)) HO_5.out (fun k_ hk => hk.2)); clear HO_5; have HO_5 := n_; clear n_; obtain ⟨hy80_, hz80_⟩ := Kd.R_celln false HO_5.out (0 : Int) (by omega) (ofD); (try simp only [Int.reduceToNat, Int.toNat_zero, Int.toNat_ofNat, Nat.reduceMul, Nat.zero_mul, Nat.zero_add] at hy80_ hz80_); (try rw [show ((0 : Int)).toNat = 0 from rfl] at hy80_); (try rw [show ((0 : Int)).toNat = 0 from rfl] at hz80_); have HP80 := Kd.R_putg HO_5.out (0 : Int) true) | ((with_reducible refine gate_store (t := 4) (p := 104) rfl ?_); refine storeS (t := 4) (p := 104) (w1 := (w79.setCell ⟨go78, (0 : Int).toNat, none⟩ (.bool true))) ?_; intro w81 hw; have hg : w79.grownBy w81 (some go78) := (by rw [hw]; exact HP80.2); have hp_ : Kd.R Kd.bool 4 w81 w.heap.size (fun k_ => some k_ ≠ (v154 : Value).ownBlock) (.slice (some ⟨go78, 0, none⟩) y128.length co78) y156 := (by rw [hw, Ny156.out]; exact HP80.1); clear HP80; have n0_ := Aside0.mk (hp_); have n1_ := Aside0.mk (Kd.R_after (v := (.slice (some ⟨go78, 0, none⟩) y128.length co78)) (v1 := (.slice (some ⟨go78, 0, none⟩) y128.length co78)) (ok := (fun _ => True)) (rP HO155.out) hg (.inl rfl)); have n2_ := Aside0.mk ((by rw [hw]; exact below_set (HB.out) GB78.out : Below w.heap.size w w81)); clear HO_5 HO155 HB; have HO_5 := n0_; have HO155 := n1_; have HB := n2_; clear n0_ n1_ n2_ hg hw hp_))
           go_loopg [11] kj21 (fun kq v11 w' => ∃ (x5_2 : List Bool) (x11_2 : Bool), v11 = .bool x11_2 ∧ Aside0 (spec_l13Contents.l2 kq x5_2 t153 x11_2 = some r) ∧ Aside0 (kq ≤ kj21) ∧ Aside0 (Kd.R Kd.bool 4 w' w.heap.size (fun k_ => some k_ ≠ (v154 : Value).ownBlock) (.slice (some ⟨go78, 0, none⟩) y128.length co78) x5_2) ∧ Aside0 (Kd.R Kd.bool 4 w' w.heap.size (fun k_ => some k_ ≠ ((.slice (some ⟨go78, 0, none⟩) y128.length co78) : Value).ownBlock) v154 t153) ∧ Aside0 (Below w.heap.size w w'))
           case atStart => exact ⟨(y156), (true), (eW), H', ⟨Nat.le_refl _⟩, ⟨(rP HO_5.out)⟩, ⟨by (with_reducible repeat (first | apply Kd.R_alloc | apply Kd.R_drewN | apply Kd.R_drew)); exact Kd.R_mono HO155.out (fun _ hk => hk.2)⟩, ⟨bW⟩⟩
           case round =>
            clear H'
            try clear c1
            try clear p1
            try clear q1
            try clear hx1
            try clear c2
            try clear p2
            try clear c3
            try clear c3b0
            try clear c3b1
            try clear q3
            try clear c4
            try clear c4b0
            try clear p4
            try clear q4
            try clear hx4
            try clear hf4
            try clear c5
            try clear c5b0
            try clear q5
            try clear c6
            try clear c6b0
            try clear c6b1
            try clear p6
            try clear q6
            try clear hx6
            try clear hf6
            try clear c7
            try clear c7b0
            try clear c7b1
            try clear p7
            try clear q7
            try clear hx7
            try clear qi7
            try clear hf7
            try clear p8
            try clear q8
            try clear hx8
            try clear qi8
            try clear hf8
            try clear c13
            try clear c13b0
            try clear c13b1
            try clear p13
            try clear q13
            try clear hx13
            try clear p14
            try clear q14
            try clear hx14
            try clear c15
            try clear c15b0
            try clear p15
            try clear q15
            try clear hx15
            try clear c16
            try clear c16b0
            try clear p17
            try clear q17
            try clear hx17
            try clear hf17
            try clear c25
            try clear c25b0
            try clear c25b1
            try clear c26
            try clear c32
            try clear c32b0
            try clear c33
            try clear c33b0
            try clear c34
            try clear c34b0
            try clear c35
            try clear c35b0
            try clear c35b1
            try clear c36
            try clear c36b0
            try clear c37
            try clear c37b0
            try clear q38
            try clear c39
            try clear c40
            try clear c40b0
            try clear p41
            try clear q41
            try clear hx41
            try clear hf41
            try clear c45
            try clear c45b0
            try clear c46
            try clear c46b0
            try clear p47
            try clear q47
            try clear hx47
            try clear hf47
            try clear c52
            try clear c52b0
            try clear c53
            try clear c53b0
            try clear c54
            try clear c54b0
            try clear q55
            try clear c56
            try clear c57
            try clear c57b0
            try clear c58
            try clear c58b0
            try clear q59
            try clear c60
            try clear p61
            try clear q61
            try clear hx61
            try clear hf61
            try clear p64
            try clear c66
            try clear c66b0
            try clear c67
            try clear c67b0
            try clear p68
            try clear q68
            try clear hx68
            try clear hf68
            try clear c75
            try clear c75b0
            try clear c75b1
            try clear c77
            try clear c77b0
            try clear c77b1
            try clear p78
            try clear q78
            try clear hx78
            try clear qi78
            try clear hf78
            try clear hx131_0
            try clear hx131_1
            try clear hx133_0
            try clear hx133_1
            try clear hx143_0
            try clear hx143_1
            try clear hx144_0
            try clear hx146_0
            try clear hx148_0
            try clear hx149_0
            try clear hx151_0
            try clear hx17_0
            try clear hx41_0
            try clear hx47_0
            try clear hx61_0
            try clear hx68_0
            try clear hx78_0
            try clear hx8_0
            try clear p1
            try clear p13
            try clear p131
            try clear p133
            try clear p14
            try clear p143
            try clear p144
            try clear p146
            try clear p148
            try clear p149
            try clear p151
            try clear p17
            try clear p2
            try clear p4
            try clear p41
            try clear p47
            try clear p6
            try clear p61
            try clear p68
            try clear p78
            try clear p8
            try clear q1
            try clear q13
            try clear q131
            try clear q133
            try clear q14
            try clear q143
            try clear q144
            try clear q146
            try clear q148
            try clear q149
            try clear q151
            try clear q17
            try clear q3
            try clear q38
            try clear q4
            try clear q41
            try clear q47
            try clear q61
            try clear q68
            try clear q78
            try clear q8
            obtain ⟨x5_2, x11_2, rfl, HA, HK2, HO_5, HO_10, HB⟩ := hrel
            have hl5_2 := (Kd.R_reads' HO_5.out).1
            rw [hl5_2] at HO_5
            (try simp only [hl5_2])
            (try simp only [hl5_2] at HO_10)
            cases gk with
            | zero => exact absurd HA.out (by simp [spec_l13Contents.l2])
            | succ k2 =>
             have H := HA.out
             clear HA
             simp only [spec_l13Contents.l2] at H
             by_cases c82 : x11_2 = true
             ·subst c82
              have H1 : (spec_l13Contents.l3 k2 x5_2 t153 false 0) = some r := by rw [if_pos rfl] at H; exact H
              clear H
              have H := H1
              clear H1
              have H' := Aside0.mk H
              clear H
              go_wp2
              go_loopg [11, 12] k2 (fun kq v11 v12 w' => ∃ (x5_3 : List Bool) (x11_3 : Bool) (x12_3 : Int), v11 = .bool x11_3 ∧ v12 = .int .i64 x12_3 ∧ Aside0 (spec_l13Contents.l3 kq x5_3 t153 x11_3 x12_3 = some r) ∧ Aside0 (kq ≤ k2) ∧ Aside0 (Kd.R Kd.bool 4 w' w.heap.size (fun k_ => some k_ ≠ (v154 : Value).ownBlock) (.slice (some ⟨go78, 0, none⟩) x5_2.length co78) x5_3) ∧ Aside0 (Kd.R Kd.bool 4 w' w.heap.size (fun k_ => some k_ ≠ ((.slice (some ⟨go78, 0, none⟩) x5_2.length co78) : Value).ownBlock) v154 t153) ∧ Aside0 (Below w.heap.size w w'))
              case atStart => exact ⟨(x5_2), (false), (0), (eW), (eW), H', ⟨Nat.le_refl _⟩, ⟨by (try simp only [hl5_2]); exact rP HO_5.out⟩, ⟨by (try simp only [hl5_2]); exact rP HO_10.out⟩, ⟨bW⟩⟩
              case round =>
               clear H'
               try clear c1
               try clear p1
               try clear q1
               try clear hx1
               try clear c2
               try clear p2
               try clear c3
               try clear c3b0
               try clear c3b1
               try clear q3
               try clear c4
               try clear c4b0
               try clear p4
               try clear q4
               try clear hx4
               try clear hf4
               try clear c5
               try clear c5b0
               try clear q5
               try clear c6
               try clear c6b0
               try clear c6b1
               try clear p6
               try clear q6
               try clear hx6
               try clear hf6
               try clear c7
               try clear c7b0
               try clear c7b1
               try clear p7
               try clear q7
               try clear hx7
               try clear qi7
               try clear hf7
               try clear c8
               try clear p8
               try clear q8
               try clear hx8
               try clear qi8
               try clear hf8
               try clear c13
               try clear c13b0
               try clear c13b1
               try clear p13
               try clear q13
               try clear hx13
               try clear p14
               try clear q14
               try clear hx14
               try clear c15
               try clear c15b0
               try clear p15
               try clear q15
               try clear hx15
               try clear c16
               try clear c16b0
               try clear p17
               try clear q17
               try clear hx17
               try clear hf17
               try clear c25
               try clear c25b0
               try clear c25b1
               try clear c26
               try clear c32
               try clear c32b0
               try clear c33
               try clear c33b0
               try clear c34
               try clear c34b0
               try clear c35
               try clear c35b0
               try clear c35b1
               try clear c36
               try clear c36b0
               try clear c37
               try clear c37b0
               try clear q38
               try clear c39
               try clear c40
               try clear c40b0
               try clear p41
               try clear q41
               try clear hx41
               try clear hf41
               try clear c45
               try clear c45b0
               try clear c46
               try clear c46b0
               try clear p47
               try clear q47
               try clear hx47
               try clear hf47
               try clear c52
               try clear c52b0
               try clear c53
               try clear c53b0
               try clear c54
               try clear c54b0
               try clear q55
               try clear c56
               try clear c57
               try clear c57b0
               try clear c58
               try clear c58b0
               try clear q59
               try clear c60
               try clear p61
               try clear q61
               try clear hx61
               try clear hf61
               try clear p64
               try clear c66
               try clear c66b0
               try clear c67
               try clear c67b0
               try clear p68
               try clear q68
               try clear hx68
               try clear hf68
               try clear c75
               try clear c75b0
               try clear c75b1
               try clear c77
               try clear c77b0
               try clear c77b1
               try clear p78
               try clear q78
               try clear hx78
               try clear qi78
               try clear hf78
               try clear c82
               try clear hx131_0
               try clear hx131_1
               try clear hx133_0
               try clear hx133_1
               try clear hx143_0
               try clear hx143_1
               try clear hx144_0
               try clear hx146_0
               try clear hx148_0
               try clear hx149_0
               try clear hx151_0
               try clear hx17_0
               try clear hx41_0
               try clear hx47_0
               try clear hx61_0
               try clear hx68_0
               try clear hx78_0
               try clear hx8_0
               try clear p1
               try clear p13
               try clear p131
               try clear p133
               try clear p14
               try clear p143
               try clear p144
               try clear p146
               try clear p148
               try clear p149
               try clear p15
               try clear p151
               try clear p17
               try clear p2
               try clear p4
               try clear p41
               try clear p47
               try clear p6
               try clear p61
               try clear p64
               try clear p68
               try clear p7
               try clear p78
               try clear p8
               try clear q1
               try clear q13
               try clear q131
               try clear q133
               try clear q14
               try clear q143
               try clear q144
               try clear q146
               try clear q148
               try clear q149
               try clear q15
               try clear q151
               try clear q17
               try clear q3
               try clear q38
               try clear q4
               try clear q41
               try clear q47
               try clear q5
               try clear q55
               try clear q59
               try clear q6
               try clear q61
               try clear q68
               try clear q7
               try clear q78
               try clear q8
               obtain ⟨x5_3, x11_3, x12_3, rfl, rfl, HA, HK3, HO_5, HO_10, HB⟩ := hrel
               have hl5_3 := (Kd.R_reads' HO_5.out).1
               rw [hl5_3] at HO_5
               (try simp only [hl5_3])
               (try simp only [hl5_3] at HO_10)
               cases gk with
               | zero => exact absurd HA.out (by simp [spec_l13Contents.l3])
               | succ k3 =>
                have H := HA.out
                clear HA
                simp only [spec_l13Contents.l3] at H
                by_cases c83 : x12_3 < 256
                ·rw [if_pos c83] at H
                 have c83b0 : decide (x12_3 < 256) = true := decide_eq_true c83
                 clear c83
                 have H' := Aside0.mk H
                 clear H
                 go_wp2
                 go_loopg [11, 13] k3 (fun kq v11 v13 w' => ∃ (x5_4 : List Bool) (x11_4 : Bool) (x13_4 : Int), v11 = .bool x11_4 ∧ v13 = .int .i64 x13_4 ∧ Aside0 (spec_l13Contents.l4 kq x5_4 t153 x11_4 x12_3 x13_4 = some r) ∧ Aside0 (kq ≤ k3) ∧ Aside0 (Kd.R Kd.bool 4 w' w.heap.size (fun k_ => some k_ ≠ (v154 : Value).ownBlock) (.slice (some ⟨go78, 0, none⟩) x5_3.length co78) x5_4) ∧ Aside0 (Kd.R Kd.bool 4 w' w.heap.size (fun k_ => some k_ ≠ ((.slice (some ⟨go78, 0, none⟩) x5_3.length co78) : Value).ownBlock) v154 t153) ∧ Aside0 (Below w.heap.size w w'))
                 case atStart => exact ⟨(x5_3), (x11_3), (0), (eW), (eW), H', ⟨Nat.le_refl _⟩, ⟨by (try simp only [hl5_2]); (try simp only [hl5_3]); exact rP HO_5.out⟩, ⟨by (try simp only [hl5_2]); (try simp only [hl5_3]); exact rP HO_10.out⟩, ⟨bW⟩⟩
                 case round =>
                  clear H'
                  try clear c1
                  try clear p1
                  try clear q1
                  try clear hx1
                  try clear c2
                  try clear p2
                  try clear c3
                  try clear c3b0
                  try clear c3b1
                  try clear q3
                  try clear c4
                  try clear c4b0
                  try clear p4
                  try clear q4
                  try clear hx4
                  try clear hf4
                  try clear c5
                  try clear c5b0
                  try clear q5
                  try clear c6
                  try clear c6b0
                  try clear c6b1
                  try clear p6
                  try clear q6
                  try clear hx6
                  try clear hf6
                  try clear c7
                  try clear c7b0
                  try clear c7b1
                  try clear p7
                  try clear q7
                  try clear hx7
                  try clear qi7
                  try clear hf7
                  try clear c8
                  try clear p8
                  try clear q8
                  try clear hx8
                  try clear qi8
                  try clear hf8
                  try clear c13
                  try clear c13b0
                  try clear c13b1
                  try clear p13
                  try clear q13
                  try clear hx13
                  try clear p14
                  try clear q14
                  try clear hx14
                  try clear c15
                  try clear c15b0
                  try clear p15
                  try clear q15
                  try clear hx15
                  try clear c16
                  try clear c16b0
                  try clear p17
                  try clear q17
                  try clear hx17
                  try clear hf17
                  try clear c25
                  try clear c25b0
                  try clear c25b1
                  try clear c26
                  try clear c32
                  try clear c32b0
                  try clear c33
                  try clear c33b0
                  try clear c34
                  try clear c34b0
                  try clear c35
                  try clear c35b0
                  try clear c35b1
                  try clear c36
                  try clear c36b0
                  try clear c37
                  try clear c37b0
                  try clear q38
                  try clear c39
                  try clear c40
                  try clear c40b0
                  try clear p41
                  try clear q41
                  try clear hx41
                  try clear hf41
                  try clear c45
                  try clear c45b0
                  try clear c46
                  try clear c46b0
                  try clear p47
                  try clear q47
                  try clear hx47
                  try clear hf47
                  try clear c52
                  try clear c52b0
                  try clear c53
                  try clear c53b0
                  try clear c54
                  try clear c54b0
                  try clear q55
                  try clear c56
                  try clear c57
                  try clear c57b0
                  try clear c58
                  try clear c58b0
                  try clear q59
                  try clear c60
                  try clear p61
                  try clear q61
                  try clear hx61
                  try clear hf61
                  try clear p64
                  try clear c66
                  try clear c66b0
                  try clear c67
                  try clear c67b0
                  try clear p68
                  try clear q68
                  try clear hx68
                  try clear hf68
                  try clear c75
                  try clear c75b0
                  try clear c75b1
                  try clear c77
                  try clear c77b0
                  try clear c77b1
                  try clear p78
                  try clear q78
                  try clear hx78
                  try clear qi78
                  try clear hf78
                  try clear c82
                  try clear c83
                  try clear c83b0
                  try clear hx131_0
                  try clear hx131_1
                  try clear hx133_0
                  try clear hx133_1
                  try clear hx143_0
                  try clear hx143_1
                  try clear hx144_0
                  try clear hx146_0
                  try clear hx148_0
                  try clear hx149_0
                  try clear hx151_0
                  try clear hx17_0
                  try clear hx41_0
                  try clear hx47_0
                  try clear hx61_0
                  try clear hx68_0
                  try clear hx78_0
                  try clear hx8_0
                  try clear p1
                  try clear p13
                  try clear p131
                  try clear p133
                  try clear p14
                  try clear p143
                  try clear p144
                  try clear p146
                  try clear p148
                  try clear p149
                  try clear p15
                  try clear p151
                  try clear p17
                  try clear p2
                  try clear p4
                  try clear p41
                  try clear p47
                  try clear p6
                  try clear p61
                  try clear p64
                  try clear p68
                  try clear p7
                  try clear p78
                  try clear p8
                  try clear q1
                  try clear q13
                  try clear q131
                  try clear q133
                  try clear q14
                  try clear q143
                  try clear q144
                  try clear q146
                  try clear q148
                  try clear q149
                  try clear q15
                  try clear q151
                  try clear q17
                  try clear q3
                  try clear q38
                  try clear q4
                  try clear q41
                  try clear q47
                  try clear q5
                  try clear q55
                  try clear q59
                  try clear q6
                  try clear q61
                  try clear q68
                  try clear q7
                  try clear q78
                  try clear q8
                  obtain ⟨x5_4, x11_4, x13_4, rfl, rfl, HA, HK4, HO_5, HO_10, HB⟩ := hrel
                  have hl5_4 := (Kd.R_reads' HO_5.out).1
                  rw [hl5_4] at HO_5
                  (try simp only [hl5_4])
                  (try simp only [hl5_4] at HO_10)
                  cases gk with
                  | zero => exact absurd HA.out (by simp [spec_l13Contents.l4])
                  | succ k4 =>
                   have H := HA.out
                   clear HA
                   simp only [spec_l13Contents.l4] at H
                   have HC84 := Aside0.mk H
                   clear H
                   go_upto_region 29 with (fail)
                   go_cut [117] (fun v117 wc => ∃ (kq : Nat) (x117_83 : Bool), v117 = .bool x117_83 ∧ Aside0 (spec_l13Contents.j6 kq x5_4 t153 x11_4 x12_3 x13_4 x117_83 = some r) ∧ Aside0 (kq ≤ k4) ∧ Aside0 (Kd.R Kd.bool 4 wc w.heap.size (fun k_ => some k_ ≠ (v154 : Value).ownBlock) (.slice (some ⟨go78, 0, none⟩) x5_4.length co78) x5_4) ∧ Aside0 (Kd.R Kd.bool 4 wc w.heap.size (fun k_ => some k_ ≠ ((.slice (some ⟨go78, 0, none⟩) x5_4.length co78) : Value).ownBlock) v154 t153) ∧ Aside0 (Below w.heap.size w wc))
                   case first =>
                    have H := HC84.out
                    clear HC84
                    by_cases c85 : x13_4 < 256
                    ·rw [if_pos c85] at H
                     have c85b0 : decide (x13_4 < 256) = true := decide_eq_true c85
                     clear c85
                     (first | rw [c85b0] | (simp only [i64_w, i32_w]; rw [c85b0]) | skip)
                     by_cases c86 : 0 ≤ x12_3
                     ·rw [if_pos c86] at H
                      have c86b0 : decide (0 ≤ x12_3) = true := decide_eq_true c86
                      clear c86
                      by_cases c87 : x12_3 < (x5_4.length : Int)
                      ·rw [if_pos c87] at H
                       have c87b0 : decide (x12_3 < (x5_4.length : Int)) = true := decide_eq_true c87
                       (try (have c87g0 := c87b0; simp only [hl5_2, hl5_3, hl5_4] at c87g0))
                       clear c87
                       have H' := Aside0.mk H
                       clear H
                       have p157 : 0 ≤ (x12_3 : Int) := ofD
                       have q157 : x12_3 < (x5_4.length : Int) := ofD
                       obtain ⟨ad157, e157, hx157_0⟩ := Kd.at_bool (Kd.R_reads' HO_5.out).2.2 x12_3 p157 q157
                       obtain rfl : (⟨go78, 0, none⟩ : Addr) = ad157 := (by injection e157)
                       (first | simp only [add_plain] at hx157_0 | simp only [add_at] at hx157_0 | simp only [Addr.add, Nat.zero_add] at hx157_0 | skip)
                       replace p157 := eq_true p157
                       replace q157 := eq_true q157
                       go_wp2
                       go_meet
                       case rel => exact ⟨_, (rdOf false x5_4 x12_3), (eW), H', ⟨by have := HJ21.out; have := HK2.out; have := HK3.out; have := HK4.out; first | omega | exact Nat.le_refl _⟩, ⟨by (try simp only [hl5_2]); (try simp only [hl5_3]); (try simp only [hl5_4]); exact rP HO_5.out⟩, ⟨by (try simp only [hl5_2]); (try simp only [hl5_3]); (try simp only [hl5_4]); exact rP HO_10.out⟩, ⟨bW⟩⟩
                      ·rw [if_neg c87] at H
                       exact absurd H (by simp)
                     ·rw [if_neg c86] at H
                      exact absurd H (by simp)
                    ·rw [if_neg c85] at H
                     have c85b0 : decide (x13_4 < 256) = false := decide_eq_false c85
                     clear c85
                     (first | rw [c85b0] | (simp only [i64_w, i32_w]; rw [c85b0]) | skip)
                     have H' := Aside0.mk H
                     clear H
                     go_wp2
                     go_meet
                     case rel => exact ⟨_, (false), (eW), H', ⟨by have := HJ21.out; have := HK2.out; have := HK3.out; have := HK4.out; first | omega | exact Nat.le_refl _⟩, ⟨by (try simp only [hl5_2]); (try simp only [hl5_3]); (try simp only [hl5_4]); exact rP HO_5.out⟩, ⟨by (try simp only [hl5_2]); (try simp only [hl5_3]); (try simp only [hl5_4]); exact rP HO_10.out⟩, ⟨bW⟩⟩
                   case rest =>
                    clear HC84
                    try clear c1
                    try clear p1
                    try clear q1
                    try clear hx1
                    try clear c2
                    try clear p2
                    try clear c3
                    try clear c3b0
                    try clear c3b1
                    try clear q3
                    try clear c4
                    try clear c4b0
                    try clear p4
                    try clear q4
                    try clear hx4
                    try clear hf4
                    try clear c5
                    try clear c5b0
                    try clear q5
                    try clear c6
                    try clear c6b0
                    try clear c6b1
                    try clear p6
                    try clear q6
                    try clear hx6
                    try clear hf6
                    try clear c7
                    try clear c7b0
                    try clear c7b1
                    try clear p7
                    try clear q7
                    try clear hx7
                    try clear qi7
                    try clear hf7
                    try clear c8
                    try clear p8
                    try clear q8
                    try clear hx8
                    try clear qi8
                    try clear hf8
                    try clear c13
                    try clear c13b0
                    try clear c13b1
                    try clear p13
                    try clear q13
                    try clear hx13
                    try clear p14
                    try clear q14
                    try clear hx14
                    try clear c15
                    try clear c15b0
                    try clear p15
                    try clear q15
                    try clear hx15
                    try clear c16
                    try clear c16b0
                    try clear p17
                    try clear q17
                    try clear hx17
                    try clear hf17
                    try clear c25
                    try clear c25b0
                    try clear c25b1
                    try clear c26
                    try clear c32
                    try clear c32b0
                    try clear c33
                    try clear c33b0
                    try clear c34
                    try clear c34b0
                    try clear c35
                    try clear c35b0
                    try clear c35b1
                    try clear c36
                    try clear c36b0
                    try clear c37
                    try clear c37b0
                    try clear q38
                    try clear c39
                    try clear c40
                    try clear c40b0
                    try clear p41
                    try clear q41
                    try clear hx41
                    try clear hf41
                    try clear c45
                    try clear c45b0
                    try clear c46
                    try clear c46b0
                    try clear p47
                    try clear q47
                    try clear hx47
                    try clear hf47
                    try clear c52
                    try clear c52b0
                    try clear c53
                    try clear c53b0
                    try clear c54
                    try clear c54b0
                    try clear q55
                    try clear c56
                    try clear c57
                    try clear c57b0
                    try clear c58
                    try clear c58b0
                    try clear q59
                    try clear c60
                    try clear p61
                    try clear q61
                    try clear hx61
                    try clear hf61
                    try clear p64
                    try clear c66
                    try clear c66b0
                    try clear c67
                    try clear c67b0
                    try clear p68
                    try clear q68
                    try clear hx68
                    try clear hf68
                    try clear c75
                    try clear c75b0
                    try clear c75b1
                    try clear c77
                    try clear c77b0
                    try clear c77b1
                    try clear p78
                    try clear q78
                    try clear hx78
                    try clear qi78
                    try clear hf78
                    try clear c82
                    try clear c83
                    try clear c83b0
                    try clear c85
                    try clear c85b0
                    try clear c86
                    try clear c86b0
                    try clear c87
                    try clear c87b0
                    try clear hx131_0
                    try clear hx131_1
                    try clear hx133_0
                    try clear hx133_1
                    try clear hx143_0
                    try clear hx143_1
                    try clear hx144_0
                    try clear hx146_0
                    try clear hx148_0
                    try clear hx149_0
                    try clear hx151_0
                    try clear hx157_0
                    try clear hx17_0
                    try clear hx41_0
                    try clear hx47_0
                    try clear hx61_0
                    try clear hx68_0
                    try clear hx78_0
                    try clear hx8_0
                    try clear p1
                    try clear p13
                    try clear p131
                    try clear p133
                    try clear p14
                    try clear p143
                    try clear p144
                    try clear p146
                    try clear p148
                    try clear p149
                    try clear p15
                    try clear p151
                    try clear p157
                    try clear p17
                    try clear p2
                    try clear p4
                    try clear p41
                    try clear p47
                    try clear p6
                    try clear p61
                    try clear p64
                    try clear p68
                    try clear p7
                    try clear p78
                    try clear p8
                    try clear q1
                    try clear q13
                    try clear q131
                    try clear q133
                    try clear q14
                    try clear q143
                    try clear q144
                    try clear q146
                    try clear q148
                    try clear q149
                    try clear q15
                    try clear q151
                    try clear q157
                    try clear q17
                    try clear q3
                    try clear q38
                    try clear q4
                    try clear q41
                    try clear q47
                    try clear q5
                    try clear q55
                    try clear q59
                    try clear q6
                    try clear q61
                    try clear q68
                    try clear q7
                    try clear q78
                    try clear q8
                    obtain ⟨kq, x117_83, rfl, HA, HJ83, HO_5, HO_10, HB⟩ := hcut
                    cases kq with
                    | zero => exact absurd HA.out (by simp [spec_l13Contents.j6])
                    | succ kj83 =>
                     have H := HA.out
                     clear HA
                     simp only [spec_l13Contents.j6] at H
                     by_cases c88 : x117_83 = true
                     ·subst c88
                      have H1 : (if 0 ≤ x13_4 then (if x13_4 < (t153.length : Int) then (if rdOf false t153 x13_4 = true then (if 0 ≤ (Go.bits .or .i64 x12_3 x13_4) then (if (Go.bits .or .i64 x12_3 x13_4) < (x5_4.length : Int) then (if (rdOf false x5_4 (Go.bits .or .i64 x12_3 x13_4) = true) then (spec_l13Contents.l4 kj83 x5_4 t153 x11_4 x12_3 (wrap64 (x13_4 + 1))) else (spec_l13Contents.l4 kj83 (x5_4.set ((Go.bits .or .i64 x12_3 x13_4) : Int).toNat true) t153 true x12_3 (wrap64 (x13_4 + 1)))) else (none)) else (none)) else (spec_l13Contents.l4 kj83 x5_4 t153 x11_4 x12_3 (wrap64 (x13_4 + 1)))) else (none)) else (none)) = some r := by rw [if_pos rfl] at H; exact H
                      clear H
                      have H := H1
                      clear H1
                      by_cases c89 : 0 ≤ x13_4
                      ·rw [if_pos c89] at H
                       have c89b0 : decide (0 ≤ x13_4) = true := decide_eq_true c89
                       clear c89
                       by_cases c90 : x13_4 < (t153.length : Int)
                       ·rw [if_pos c90] at H
                        have c90b0 : decide (x13_4 < (t153.length : Int)) = true := decide_eq_true c90
                        (try (have c90g0 := c90b0; simp only [hl5_2, hl5_3, hl5_4] at c90g0))
                        clear c90
                        obtain ⟨bq91, hbq91⟩ : ∃ b_ : Bool, b_ = (rdOf false t153 x13_4) := ⟨_, rfl⟩
                        replace H : (if bq91 = true then (if 0 ≤ (Go.bits .or .i64 x12_3 x13_4) then (if (Go.bits .or .i64 x12_3 x13_4) < (x5_4.length : Int) then (if (rdOf false x5_4 (Go.bits .or .i64 x12_3 x13_4) = true) then (spec_l13Contents.l4 kj83 x5_4 t153 x11_4 x12_3 (wrap64 (x13_4 + 1))) else (spec_l13Contents.l4 kj83 (x5_4.set ((Go.bits .or .i64 x12_3 x13_4) : Int).toNat true) t153 true x12_3 (wrap64 (x13_4 + 1)))) else (none)) else (none)) else (spec_l13Contents.l4 kj83 x5_4 t153 x11_4 x12_3 (wrap64 (x13_4 + 1)))) = some r := by rw [← hbq91] at H; exact H
                        have Nbq91 := Aside0.mk hbq91
                        clear hbq91
                        by_cases c92 : bq91 = true
                        ·subst c92
                         have H1 : (if 0 ≤ (Go.bits .or .i64 x12_3 x13_4) then (if (Go.bits .or .i64 x12_3 x13_4) < (x5_4.length : Int) then (if (rdOf false x5_4 (Go.bits .or .i64 x12_3 x13_4) = true) then (spec_l13Contents.l4 kj83 x5_4 t153 x11_4 x12_3 (wrap64 (x13_4 + 1))) else (spec_l13Contents.l4 kj83 (x5_4.set ((Go.bits .or .i64 x12_3 x13_4) : Int).toNat true) t153 true x12_3 (wrap64 (x13_4 + 1)))) else (none)) else (none)) = some r := by rw [if_pos rfl] at H; exact H
                         clear H
                         have H := H1
                         clear H1
                         by_cases c93 : 0 ≤ (Go.bits .or .i64 x12_3 x13_4)
                         ·rw [if_pos c93] at H
                          have c93b0 : decide (0 ≤ (Go.bits .or .i64 x12_3 x13_4)) = true := decide_eq_true c93
                          clear c93
                          by_cases c94 : (Go.bits .or .i64 x12_3 x13_4) < (x5_4.length : Int)
                          ·rw [if_pos c94] at H
                           have c94b0 : decide ((Go.bits .or .i64 x12_3 x13_4) < (x5_4.length : Int)) = true := decide_eq_true c94
                           (try (have c94g0 := c94b0; simp only [hl5_2, hl5_3, hl5_4] at c94g0))
                           clear c94
                           obtain ⟨bq95, hbq95⟩ : ∃ b_ : Bool, b_ = (rdOf false x5_4 (Go.bits .or .i64 x12_3 x13_4)) := ⟨_, rfl⟩
                           replace H : (if (bq95 = true) then (spec_l13Contents.l4 kj83 x5_4 t153 x11_4 x12_3 (wrap64 (x13_4 + 1))) else (spec_l13Contents.l4 kj83 (x5_4.set ((Go.bits .or .i64 x12_3 x13_4) : Int).toNat true) t153 true x12_3 (wrap64 (x13_4 + 1)))) = some r := by rw [← hbq95] at H; exact H
                           have Nbq95 := Aside0.mk hbq95
                           clear hbq95
                           by_cases c96 : (bq95 = true)
                           ·subst c96
                            have H1 : (spec_l13Contents.l4 kj83 x5_4 t153 x11_4 x12_3 (wrap64 (x13_4 + 1))) = some r := by rw [if_pos rfl] at H; exact H
                            clear H
                            have H := H1
                            clear H1
                            have H' := Aside0.mk H
                            clear H
                            obtain ⟨Ao97, co97, eo97⟩ := Kd.R_slice HO_10.out
                            subst eo97
                            have p158 : 0 ≤ (x13_4 : Int) := ofD
                            have q158 : x13_4 < (t153.length : Int) := ofD
                            obtain ⟨ad158, e158, hx158_0⟩ := Kd.at_bool (Kd.R_reads' HO_10.out).2.2 x13_4 p158 q158
                            (try rw [← Nbq91.out] at hx158_0)
                            (try rw [← Nbq95.out] at hx158_0)
                            cases e158
                            replace p158 := eq_true p158
                            replace q158 := eq_true q158
                            have p159 : 0 ≤ ((Go.bits .or .i64 x12_3 x13_4) : Int) := ofD
                            have q159 : (Go.bits .or .i64 x12_3 x13_4) < (x5_4.length : Int) := ofD
                            obtain ⟨ad159, e159, hx159_0⟩ := Kd.at_bool (Kd.R_reads' HO_5.out).2.2 (Go.bits .or .i64 x12_3 x13_4) p159 q159
                            (try rw [← Nbq91.out] at hx159_0)
                            (try rw [← Nbq95.out] at hx159_0)
                            obtain rfl : (⟨go78, 0, none⟩ : Addr) = ad159 := (by injection e159)
                            (first | simp only [add_plain] at hx159_0 | simp only [add_at] at hx159_0 | simp only [Addr.add, Nat.zero_add] at hx159_0 | skip)
                            replace p159 := eq_true p159
                            replace q159 := eq_true q159
                            go_wp2
                            (try simp only [← hl5_4])
                            go_roundg kj83
                            case measure => have := HJ21.out; have := HK2.out; have := HK3.out; have := HK4.out; have := HJ83.out; omega
                            case rel => exact ⟨(x5_4), (x11_4), (wrap64 (x13_4 + 1)), (eW), (eW), H', ⟨by have := HJ21.out; have := HK2.out; have := HK3.out; have := HK4.out; have := HJ83.out; omega⟩, ⟨by (try simp only [hl5_2]); (try simp only [hl5_3]); (try simp only [hl5_4]); exact rP HO_5.out⟩, ⟨by (try simp only [hl5_2]); (try simp only [hl5_3]); (try simp only [hl5_4]); exact rP HO_10.out⟩, ⟨bW⟩⟩
                           ·replace c96 := Bool.eq_false_iff.mpr c96
                            subst c96
                            have H1 : (spec_l13Contents.l4 kj83 (x5_4.set ((Go.bits .or .i64 x12_3 x13_4) : Int).toNat true) t153 true x12_3 (wrap64 (x13_4 + 1))) = some r := by rw [if_neg (show ¬ (false = true) by decide)] at H; exact H
                            clear H
                            have H := H1
                            clear H1
                            obtain ⟨y160, hy160⟩ : ∃ y_ : List Bool, y_ = (x5_4.set ((Go.bits .or .i64 x12_3 x13_4) : Int).toNat true) := ⟨_, rfl⟩
                            replace H : (spec_l13Contents.l4 kj83 y160 t153 true x12_3 (wrap64 (x13_4 + 1))) = some r := by first | (rw [hy160]; with_reducible exact H) | (have H2_ := (Option.bind_some _ _).symm.trans H; rw [hy160]; with_reducible exact H2_) | (have H2_ := (Option.bind_some _ _).symm.trans H; with_reducible exact H2_) | with_reducible exact H | (rw [hy160]; exact H) | exact H
                            have Ny160 := Aside0.mk hy160
                            clear hy160
                            have H' := Aside0.mk H
                            clear H
                            obtain ⟨Ao99, co99, eo99⟩ := Kd.R_slice HO_10.out
                            subst eo99
                            have p158 : 0 ≤ (x13_4 : Int) := ofD
                            have q158 : x13_4 < (t153.length : Int) := ofD
                            obtain ⟨ad158, e158, hx158_0⟩ := Kd.at_bool (Kd.R_reads' HO_10.out).2.2 x13_4 p158 q158
                            (try rw [← Nbq91.out] at hx158_0)
                            (try rw [← Nbq95.out] at hx158_0)
                            cases e158
                            replace p158 := eq_true p158
                            replace q158 := eq_true q158
                            have p159 : 0 ≤ ((Go.bits .or .i64 x12_3 x13_4) : Int) := ofD
                            have q159 : (Go.bits .or .i64 x12_3 x13_4) < (x5_4.length : Int) := ofD
                            obtain ⟨ad159, e159, hx159_0⟩ := Kd.at_bool (Kd.R_reads' HO_5.out).2.2 (Go.bits .or .i64 x12_3 x13_4) p159 q159
                            (try rw [← Nbq91.out] at hx159_0)
                            (try rw [← Nbq95.out] at hx159_0)
                            obtain rfl : (⟨go78, 0, none⟩ : Addr) = ad159 := (by injection e159)
                            (first | simp only [add_plain] at hx159_0 | simp only [add_at] at hx159_0 | simp only [Addr.add, Nat.zero_add] at hx159_0 | skip)
                            replace p159 := eq_true p159
                            replace q159 := eq_true q159
                            have p98 : 0 ≤ ((Go.bits .or .i64 x12_3 x13_4) : Int) := ofD
                            have q98 : ((Go.bits .or .i64 x12_3 x13_4) : Int) < ((x5_4.length : Int) : Int) := ofD
                            obtain ⟨hx98_0, hf98_0⟩ := Kd.R_celln false HO_5.out ((Go.bits .or .i64 x12_3 x13_4) : Int) p98 q98
                            replace p98 := eq_true p98
                            replace q98 := eq_true q98
                            have HP100 := Kd.R_putg HO_5.out ((Go.bits .or .i64 x12_3 x13_4) : Int) true
                            go_wp2_with (first | ((with_reducible refine gate_store (t := 4) (p := 137) rfl ?_); refine storeS (t := 4) (p := 137) (w1 := (wc.setCell ⟨go78, ((Go.bits .or .i64 x12_3 x13_4) : Int).toNat, none⟩ (.bool true))) ?_; intro w101 hw; have hg : wc.grownBy w101 (some go78) := (by rw [hw]; exact HP100.2); have hp_ : Kd.R Kd.bool 4 w101 w.heap.size (fun k_ => some k_ ≠ (.slice (some ad158) t153.length co99 : Value).ownBlock) (.slice (some ⟨go78, 0, none⟩) x5_4.length co78) y160 := (by rw [hw, Ny160.out]; exact HP100.1); clear HP100; have n0_ := Aside0.mk (hp_); have n1_ := Aside0.mk (Kd.R_after (v := (.slice (some ⟨go78, 0, none⟩) x5_4.length co78)) (v1 := (.slice (some ⟨go78, 0, none⟩) x5_4.length co78)) (ok := (fun _ => True)) (by (with_reducible repeat (first | apply Kd.R_alloc | apply Kd.R_drewN | apply Kd.R_drew)); exact Kd.R_mono HO_10.out (fun _ hk => ⟨trivial, hk⟩)) hg (.inl rfl)); have n2_ := Aside0.mk ((by rw [hw]; exact below_set (HB.out) GB78.out : Below w.heap.size w w101)); clear HO_5 HO_10 HB; have HO_5 := n0_; have HO_10 := n1_; have HB := n2_; clear n0_ n1_ n2_ hg hw hp_))
                            (try simp only [← hl5_4])
                            go_roundg kj83
                            case measure => have := HJ21.out; have := HK2.out; have := HK3.out; have := HK4.out; have := HJ83.out; omega
                            case rel => exact ⟨(y160), (true), (wrap64 (x13_4 + 1)), (eW), (eW), H', ⟨by have := HJ21.out; have := HK2.out; have := HK3.out; have := HK4.out; have := HJ83.out; omega⟩, ⟨by (try simp only [hl5_2]); (try simp only [hl5_3]); (try simp only [hl5_4]); exact rP HO_5.out⟩, ⟨by (try simp only [hl5_2]); (try simp only [hl5_3]); (try simp only [hl5_4]); (with_reducible repeat (first | apply Kd.R_alloc | apply Kd.R_drewN | apply Kd.R_drew)); exact Kd.R_mono HO_10.out (fun _ hk => hk.2)⟩, ⟨bW⟩⟩
                          ·rw [if_neg c94] at H
                           exact absurd H (by simp)
                         ·rw [if_neg c93] at H
                          exact absurd H (by simp)
                        ·replace c92 := Bool.eq_false_iff.mpr c92
                         subst c92
                         have H1 : (spec_l13Contents.l4 kj83 x5_4 t153 x11_4 x12_3 (wrap64 (x13_4 + 1))) = some r := by rw [if_neg (show ¬ (false = true) by decide)] at H; exact H
                         clear H
                         have H := H1
                         clear H1
                         have H' := Aside0.mk H
                         clear H
                         obtain ⟨Ao102, co102, eo102⟩ := Kd.R_slice HO_10.out
                         subst eo102
                         have p158 : 0 ≤ (x13_4 : Int) := ofD
                         have q158 : x13_4 < (t153.length : Int) := ofD
                         obtain ⟨ad158, e158, hx158_0⟩ := Kd.at_bool (Kd.R_reads' HO_10.out).2.2 x13_4 p158 q158
                         (try rw [← Nbq91.out] at hx158_0)
                         cases e158
                         replace p158 := eq_true p158
                         replace q158 := eq_true q158
                         go_wp2
                         (try simp only [← hl5_4])
                         go_roundg kj83
                         case measure => have := HJ21.out; have := HK2.out; have := HK3.out; have := HK4.out; have := HJ83.out; omega
                         case rel => exact ⟨(x5_4), (x11_4), (wrap64 (x13_4 + 1)), (eW), (eW), H', ⟨by have := HJ21.out; have := HK2.out; have := HK3.out; have := HK4.out; have := HJ83.out; omega⟩, ⟨by (try simp only [hl5_2]); (try simp only [hl5_3]); (try simp only [hl5_4]); exact rP HO_5.out⟩, ⟨by (try simp only [hl5_2]); (try simp only [hl5_3]); (try simp only [hl5_4]); exact rP HO_10.out⟩, ⟨bW⟩⟩
                       ·rw [if_neg c90] at H
                        exact absurd H (by simp)
                      ·rw [if_neg c89] at H
                       exact absurd H (by simp)
                     ·replace c88 := Bool.eq_false_iff.mpr c88
                      subst c88
                      have H1 : (spec_l13Contents.l3 kj83 x5_4 t153 x11_4 (wrap64 (x12_3 + 1))) = some r := by rw [if_neg (show ¬ (false = true) by decide)] at H; exact H
                      clear H
                      have H := H1
                      clear H1
                      have H' := Aside0.mk H
                      clear H
                      go_wp2
                      (try simp only [← hl5_3, ← hl5_4])
                      go_roundg kj83
                      case measure => have := HJ21.out; have := HK2.out; have := HK3.out; have := HK4.out; have := HJ83.out; omega
                      case rel => exact ⟨(x5_4), (x11_4), (wrap64 (x12_3 + 1)), (eW), (eW), H', ⟨by have := HJ21.out; have := HK2.out; have := HK3.out; have := HK4.out; have := HJ83.out; omega⟩, ⟨by (try simp only [hl5_2]); (try simp only [hl5_3]); (try simp only [hl5_4]); exact rP HO_5.out⟩, ⟨by (try simp only [hl5_2]); (try simp only [hl5_3]); (try simp only [hl5_4]); exact rP HO_10.out⟩, ⟨bW⟩⟩
                ·rw [if_neg c83] at H
                 have c83b0 : decide (x12_3 < 256) = false := decide_eq_false c83
                 clear c83
                 have H' := Aside0.mk H
                 clear H
                 go_wp2
                 (try simp only [← hl5_2, ← hl5_3])
                 go_roundg k3
                 case measure => have := HJ21.out; have := HK2.out; have := HK3.out; omega
                 case rel => exact ⟨(x5_3), (x11_3), (eW), H', ⟨by have := HJ21.out; have := HK2.out; have := HK3.out; omega⟩, ⟨by (try simp only [hl5_2]); (try simp only [hl5_3]); exact rP HO_5.out⟩, ⟨by (try simp only [hl5_2]); (try simp only [hl5_3]); exact rP HO_10.out⟩, ⟨bW⟩⟩
             ·replace c82 := Bool.eq_false_iff.mpr c82
              subst c82
              have H1 : (some x5_2) = some r := by rw [if_neg (show ¬ (false = true) by decide)] at H; exact H
              clear H
              have H := H1
              clear H1
              obtain rfl := Option.some.inj H
              go_wp2
              go_ret
              exact ⟨_, eW, by (with_reducible repeat (first | apply Kd.R_alloc | apply Kd.R_drewN | apply Kd.R_drew)); exact Kd.R_mono HO_5.out (fun _ hk => trivial), bW⟩
          ·rw [if_neg c77] at H
           exact absurd H (by simp)
         ·rw [if_neg c75] at H
          have c75b0 : (((rd_T50 l0 a1).f0) == 5) = false := beq_eq_false_iff_ne.mpr c75
          have c75b1 : (((rd_T50 l0 a1).f0) != 5) = true := bne_iff_ne.mpr c75
          obtain rfl := Option.some.inj H
          go_wp2
          go_ret
          exact ⟨_, eW, (rP HO_5.out), bW⟩
   ·rw [if_neg c5] at H
    exact absurd H (by simp)
  ·rw [if_neg c4] at H
   exact absurd H (by simp)
 ·rw [if_neg c3] at H
  exact absurd H (by simp)
end Go.Proofs.YtcbcfkmeemenkaaDoor.P
end M0
