import Derived.ArgAppend
import Derived.Below
import Derived.BigQuiet
import Derived.Deep.AppendLies
import Derived.Deep.CutBlock
import Derived.Deep.DeepCutAuto
import Derived.Deep.Draws
import Derived.Deep.LoopGhost
import Derived.Deep.OwnRows
import Derived.Deep.QuietTactic
import Derived.Deep.RegionHeld3
import Derived.KernelRfl
import Derived.Laws.BitsLemmas
import Derived.Laws.BytesArg
import Derived.Laws.IdiomCopy
import Derived.Laws.MakeOwn
import Derived.Laws.OwnMore
import Derived.Laws.Rows
import Derived.Laws.Slices
import Derived.Laws.StructEq
import Derived.Lib.AppendStr
import Derived.Lib.ConvBytes
import Derived.Lib.SliceRun
import Derived.Maps.AppendAt
import Derived.OrdersHeld
import Derived.OwnWalk
import Derived.RowKit
import Derived.RowKit3
import Derived.Shelf.Abstract
import Derived.Shelf.Spec.TrailingZeros
import Derived.Tactics
import Derived.Test.YthbaocejgjpfoaaDoorProg
import Derived.WalkKit
import Derived.WideLaws
import Derived.Test.YthbaocejgjpfoaaDoorCFnExactIsAsynchronous2
import Derived.Test.YthbaocejgjpfoaaDoorCFnExactIsAsynchronous12
section M0
namespace Go.Proofs.YthbaocejgjpfoaaDoor.P
open Go.RowKit Go.Proofs.YthbaocejgjpfoaaDoor.Sh Go.Proofs.YthbaocejgjpfoaaDoorW.PrintWords Go.Proofs.YthbaocejgjpfoaaDoorW.PrintLast Go.Proofs.YthbaocejgjpfoaaDoorW.PrintMore
attribute [local go_sem] max2_int min2_int max_two min_two max_three min_three max_four min_four   -- for this text's walks alone
set_option linter.unusedVariables false
set_option linter.unusedSimpArgs false

/-! ### laws_eqJoint: function 135 -/
def laws_eqJoint.f (k : Nat) (a0_0 : Int) (l0_1 : List Int) (l0_2 : List Int) (a1_0 : Int) (l1_1 : List Int) (l1_2 : List Int) : Option (Bool) := if a0_0 = a1_0 then ((laws_eqInt64S.f k l0_1 l1_1).bind fun t582 => (if t582 = true then ((laws_eqInt64S.f k l0_2 l1_2).bind fun t583 => (if t583 = true then (some true) else (some false))) else (some false))) else (some false)
theorem laws_eqJoint.mono : ∀ a0 a1 a2 a3 a4 a5 k, LeO (laws_eqJoint.f k a0 a1 a2 a3 a4 a5) (laws_eqJoint.f (k + 1) a0 a1 a2 a3 a4 a5) := by
 intro a0 a1 a2 a3 a4 a5 k
 unfold laws_eqJoint.f
 repeat' first
   | (with_reducible exact laws_eqInt64S.mono _ _ _)
   | (with_reducible exact LeO.refl _)
   | (with_reducible exact LeO.none _)
   | (with_reducible refine LeO.ite ?_ ?_)
   | (with_reducible refine LeO.bind ?_ (fun _ => ?_))
   | exact laws_eqInt64S.mono _ _ _
   | exact LeO.none _
   | refine LeO.ite ?_ ?_
   | refine LeO.bind ?_ (fun _ => ?_)
set_option maxHeartbeats 8000000 in
set_option maxRecDepth 100000 in
theorem laws_eqJoint.calls (k : Nat) (a0_0 : Int) (A0_1 : Option Addr) (c0_1 : Nat) (l0_1 : List Int) (A0_2 : Option Addr) (c0_2 : Nat) (l0_2 : List Int) (a1_0 : Int) (A1_1 : Option Addr) (c1_1 : Nat) (l1_1 : List Int) (A1_2 : Option Addr) (c1_2 : Nat) (l1_2 : List Int) (r : Bool) (w : World) (hr0_1 : Kd.C (Kd.int .i64) w A0_1 l0_1.length l0_1) (hc0_1 : l0_1.length ≤ c0_1) (hr0_2 : Kd.C (Kd.int .i64) w A0_2 l0_2.length l0_2) (hc0_2 : l0_2.length ≤ c0_2) (hr1_1 : Kd.C (Kd.int .i64) w A1_1 l1_1.length l1_1) (hc1_1 : l1_1.length ≤ c1_1) (hr1_2 : Kd.C (Kd.int .i64) w A1_2 l1_2.length l1_2) (hc1_2 : l1_2.length ≤ c1_2) (h : laws_eqJoint.f k a0_0 l0_1 l0_2 a1_0 l1_1 l1_2 = some r) :
  Calls Tryd.prog 135 #[.agg #[.int .i64 a0_0, .slice A0_1 l0_1.length c0_1, .slice A0_2 l0_2.length c0_2], .agg #[.int .i64 a1_0, .slice A1_1 l1_1.length c1_1, .slice A1_2 l1_2.length c1_2]] w fun e w' => e = .returned (.bool r) ∧ Below w.heap.size w w' := by
 have hu149 := Tryd.underlying149
 have HR0_1 := Aside0.mk hr0_1
 have HC0_1 := Aside0.mk hc0_1
 clear hr0_1 hc0_1
 have HR0_2 := Aside0.mk hr0_2
 have HC0_2 := Aside0.mk hc0_2
 clear hr0_2 hc0_2
 have HR1_1 := Aside0.mk hr1_1
 have HC1_1 := Aside0.mk hc1_1
 clear hr1_1 hc1_1
 have HR1_2 := Aside0.mk hr1_2
 have HC1_2 := Aside0.mk hc1_2
 clear hr1_2 hc1_2
 have HB := Aside0.mk (Below.refl w.heap.size w)
 have H : (if a0_0 = a1_0 then ((laws_eqInt64S.f k l0_1 l1_1).bind fun t582 => (if t582 = true then ((laws_eqInt64S.f k l0_2 l1_2).bind fun t583 => (if t583 = true then (some true) else (some false))) else (some false))) else (some false)) = some r := h
 clear h
 by_cases c3 : a0_0 = a1_0
 ·rw [if_pos c3] at H
  have c3b0 : (a0_0 == a1_0) = true := beq_iff_eq.mpr c3
  have c3b1 : (a0_0 != a1_0) = false := bne_eq_false_iff_eq.mpr c3
  clear c3
  replace H := Option.bind_eq_some_iff.mp H
  obtain ⟨t582, A40, H⟩ := H
  replace H : (if t582 = true then ((laws_eqInt64S.f k l0_2 l1_2).bind fun t583 => (if t583 = true then (some true) else (some false))) else (some false)) = some r := H
  have A4 := Aside0.mk A40
  clear A40
  by_cases c5 : t582 = true
  ·subst c5
   have H1 : ((laws_eqInt64S.f k l0_2 l1_2).bind fun t583 => (if t583 = true then (some true) else (some false))) = some r := by rw [if_pos rfl] at H; exact H
   clear H
   have H := H1
   clear H1
   replace H := Option.bind_eq_some_iff.mp H
   obtain ⟨t583, A60, H⟩ := H
   replace H : (if t583 = true then (some true) else (some false)) = some r := H
   have A6 := Aside0.mk A60
   clear A60
   by_cases c7 : t583 = true
   ·subst c7
    have H1 : (some true) = some r := by rw [if_pos rfl] at H; exact H
    clear H
    have H := H1
    clear H1
    obtain rfl := Option.some.inj H
    go_enter Tryd.func135, Tryd.ntmps135
    go_wp2_with (first | ((with_reducible refine gate_dst (N := 2) rfl ?_); refine boxS (N := 2) (cs := #[.int .i64 a0_0, .slice A0_1 l0_1.length c0_1, .slice A0_2 l0_2.length c0_2]) (t := 149) ?_; intro gb580 hg w8 hbox hb; have n0_ := Aside0.mk (below_step (bW) hb); have n1_ := Aside0.mk (hbox); have n2_ := geW (w := w) hg; have n3_ := geW (w := w) hg; clear HB; have HB := n0_; have BK580 := n1_; have GW580 := n2_; have GE580 := n3_; clear n0_ n1_ n2_ n3_; clear hb hbox hg) | ((with_reducible refine gate_dst (N := 3) rfl ?_); refine boxS (N := 3) (cs := #[.int .i64 a1_0, .slice A1_1 l1_1.length c1_1, .slice A1_2 l1_2.length c1_2]) (t := 149) ?_; intro gb581 hg w9 hbox hb; have n0_ := Aside0.mk (blkB BK580.out hb); have n1_ := Aside0.mk (below_step (bW) hb); have n2_ := Aside0.mk (hbox); have n3_ := geW (w := w) hg; have n4_ := geW (w := w) hg; have n5_ := Aside0.mk ((by rw [hg]; exact Nat.ne_of_lt (blk_lt (g := gb580) (o := .cells #[.int .i64 a0_0, .slice A0_1 l0_1.length c0_1, .slice A0_2 l0_2.length c0_2] 149 (0, 0)) (bP BK580.out)) : gb580 ≠ gb581)); have n6_ := Aside0.mk ((by rw [hg]; exact Nat.ne_of_gt (blk_lt (g := gb580) (o := .cells #[.int .i64 a0_0, .slice A0_1 l0_1.length c0_1, .slice A0_2 l0_2.length c0_2] 149 (0, 0)) (bP BK580.out)) : gb581 ≠ gb580)); clear BK580; clear HB; have BK580 := n0_; have HB := n1_; have BK581 := n2_; have GW581 := n3_; have GE581 := n4_; have NB580_581 := n5_; have NB581_580 := n6_; clear n0_ n1_ n2_ n3_ n4_ n5_ n6_; clear hb hbox hg; have hnb10 := NB580_581.out; have hnc10 := NB581_580.out; obtain ⟨hcz11_0, hcz11_1, hcz11_2⟩ := cells3 BK580.out; obtain ⟨hfz11_0, hfz11_1, hfz11_2⟩ := frz3 BK580.out; obtain ⟨hcz12_0, hcz12_1, hcz12_2⟩ := cells3 BK581.out; obtain ⟨hfz12_0, hfz12_1, hfz12_2⟩ := frz3 BK581.out) | ((with_reducible refine gate_callee (f := 32) rfl ?_); refine goesS (some 14) Tryd.func32 #[.slice A0_1 l0_1.length c0_1, .slice A1_1 l1_1.length c1_1] ?_; (with_reducible refine (laws_eqInt64S.calls k _ _ l0_1 _ _ l1_1 true _ ?side1 ?side2 ?side3 ?side4 A4.out).mono ?_); (case side1 => exact cP (Kd.C_below HR0_1.out HB.out)); (case side2 => exact HC0_1.out); (case side3 => exact cP (Kd.C_below HR1_1.out HB.out)); (case side4 => exact HC1_1.out); rintro e w' ⟨rfl, ⟨nd, rfl⟩⟩; refine ⟨_, rfl, ?_⟩) | ((with_reducible refine gate_callee (f := 32) rfl ?_); refine goesS (some 20) Tryd.func32 #[.slice A0_2 l0_2.length c0_2, .slice A1_2 l1_2.length c1_2] ?_; (with_reducible refine (laws_eqInt64S.calls k _ _ l0_2 _ _ l1_2 true _ ?side1 ?side2 ?side3 ?side4 A6.out).mono ?_); (case side1 => exact cP (Kd.C_below HR0_2.out (bW))); (case side2 => exact HC0_2.out); (case side3 => exact cP (Kd.C_below HR1_2.out (bW))); (case side4 => exact HC1_2.out); rintro e w' ⟨rfl, ⟨nd, rfl⟩⟩; refine ⟨_, rfl, ?_⟩))
    go_ret
    exact ⟨eW, bW⟩
   ·replace c7 := Bool.eq_false_iff.mpr c7
    subst c7
    have H1 : (some false) = some r := by rw [if_neg (show ¬ (false = true) by decide)] at H; exact H
    clear H
    have H := H1
    clear H1
    obtain rfl := Option.some.inj H
    go_enter Tryd.func135, Tryd.ntmps135
    go_wp2_with (first | ((with_reducible refine gate_dst (N := 2) rfl ?_); refine boxS (N := 2) (cs := #[.int .i64 a0_0, .slice A0_1 l0_1.length c0_1, .slice A0_2 l0_2.length c0_2]) (t := 149) ?_; intro gb580 hg w13 hbox hb; have n0_ := Aside0.mk (below_step (bW) hb); have n1_ := Aside0.mk (hbox); have n2_ := geW (w := w) hg; have n3_ := geW (w := w) hg; clear HB; have HB := n0_; have BK580 := n1_; have GW580 := n2_; have GE580 := n3_; clear n0_ n1_ n2_ n3_; clear hb hbox hg) | ((with_reducible refine gate_dst (N := 3) rfl ?_); refine boxS (N := 3) (cs := #[.int .i64 a1_0, .slice A1_1 l1_1.length c1_1, .slice A1_2 l1_2.length c1_2]) (t := 149) ?_; intro gb581 hg w14 hbox hb; have n0_ := Aside0.mk (blkB BK580.out hb); have n1_ := Aside0.mk (below_step (bW) hb); have n2_ := Aside0.mk (hbox); have n3_ := geW (w := w) hg; have n4_ := geW (w := w) hg; have n5_ := Aside0.mk ((by rw [hg]; exact Nat.ne_of_lt (blk_lt (g := gb580) (o := .cells #[.int .i64 a0_0, .slice A0_1 l0_1.length c0_1, .slice A0_2 l0_2.length c0_2] 149 (0, 0)) (bP BK580.out)) : gb580 ≠ gb581)); have n6_ := Aside0.mk ((by rw [hg]; exact Nat.ne_of_gt (blk_lt (g := gb580) (o := .cells #[.int .i64 a0_0, .slice A0_1 l0_1.length c0_1, .slice A0_2 l0_2.length c0_2] 149 (0, 0)) (bP BK580.out)) : gb581 ≠ gb580)); clear BK580; clear HB; have BK580 := n0_; have HB := n1_; have BK581 := n2_; have GW581 := n3_; have GE581 := n4_; have NB580_581 := n5_; have NB581_580 := n6_; clear n0_ n1_ n2_ n3_ n4_ n5_ n6_; clear hb hbox hg; have hnb15 := NB580_581.out; have hnc15 := NB581_580.out; obtain ⟨hcz16_0, hcz16_1, hcz16_2⟩ := cells3 BK580.out; obtain ⟨hfz16_0, hfz16_1, hfz16_2⟩ := frz3 BK580.out; obtain ⟨hcz17_0, hcz17_1, hcz17_2⟩ := cells3 BK581.out; obtain ⟨hfz17_0, hfz17_1, hfz17_2⟩ := frz3 BK581.out) | ((with_reducible refine gate_callee (f := 32) rfl ?_); refine goesS (some 14) Tryd.func32 #[.slice A0_1 l0_1.length c0_1, .slice A1_1 l1_1.length c1_1] ?_; (with_reducible refine (laws_eqInt64S.calls k _ _ l0_1 _ _ l1_1 true _ ?side1 ?side2 ?side3 ?side4 A4.out).mono ?_); (case side1 => exact cP (Kd.C_below HR0_1.out HB.out)); (case side2 => exact HC0_1.out); (case side3 => exact cP (Kd.C_below HR1_1.out HB.out)); (case side4 => exact HC1_1.out); rintro e w' ⟨rfl, ⟨nd, rfl⟩⟩; refine ⟨_, rfl, ?_⟩) | ((with_reducible refine gate_callee (f := 32) rfl ?_); refine goesS (some 20) Tryd.func32 #[.slice A0_2 l0_2.length c0_2, .slice A1_2 l1_2.length c1_2] ?_; (with_reducible refine (laws_eqInt64S.calls k _ _ l0_2 _ _ l1_2 false _ ?side1 ?side2 ?side3 ?side4 A6.out).mono ?_); (case side1 => exact cP (Kd.C_below HR0_2.out (bW))); (case side2 => exact HC0_2.out); (case side3 => exact cP (Kd.C_below HR1_2.out (bW))); (case side4 => exact HC1_2.out); rintro e w' ⟨rfl, ⟨nd, rfl⟩⟩; refine ⟨_, rfl, ?_⟩))
    go_ret
    exact ⟨eW, bW⟩
  ·replace c5 := Bool.eq_false_iff.mpr c5
   subst c5
   have H1 : (some false) = some r := by rw [if_neg (show ¬ (false = true) by decide)] at H; exact H
   clear H
   have H := H1
   clear H1
   obtain rfl := Option.some.inj H
   go_enter Tryd.func135, Tryd.ntmps135
   go_wp2_with (first | ((with_reducible refine gate_dst (N := 2) rfl ?_); refine boxS (N := 2) (cs := #[.int .i64 a0_0, .slice A0_1 l0_1.length c0_1, .slice A0_2 l0_2.length c0_2]) (t := 149) ?_; intro gb580 hg w18 hbox hb; have n0_ := Aside0.mk (below_step (bW) hb); have n1_ := Aside0.mk (hbox); have n2_ := geW (w := w) hg; have n3_ := geW (w := w) hg; clear HB; have HB := n0_; have BK580 := n1_; have GW580 := n2_; have GE580 := n3_; clear n0_ n1_ n2_ n3_; clear hb hbox hg) | ((with_reducible refine gate_dst (N := 3) rfl ?_); refine boxS (N := 3) (cs := #[.int .i64 a1_0, .slice A1_1 l1_1.length c1_1, .slice A1_2 l1_2.length c1_2]) (t := 149) ?_; intro gb581 hg w19 hbox hb; have n0_ := Aside0.mk (blkB BK580.out hb); have n1_ := Aside0.mk (below_step (bW) hb); have n2_ := Aside0.mk (hbox); have n3_ := geW (w := w) hg; have n4_ := geW (w := w) hg; have n5_ := Aside0.mk ((by rw [hg]; exact Nat.ne_of_lt (blk_lt (g := gb580) (o := .cells #[.int .i64 a0_0, .slice A0_1 l0_1.length c0_1, .slice A0_2 l0_2.length c0_2] 149 (0, 0)) (bP BK580.out)) : gb580 ≠ gb581)); have n6_ := Aside0.mk ((by rw [hg]; exact Nat.ne_of_gt (blk_lt (g := gb580) (o := .cells #[.int .i64 a0_0, .slice A0_1 l0_1.length c0_1, .slice A0_2 l0_2.length c0_2] 149 (0, 0)) (bP BK580.out)) : gb581 ≠ gb580)); clear BK580; clear HB; have BK580 := n0_; have HB := n1_; have BK581 := n2_; have GW581 := n3_; have GE581 := n4_; have NB580_581 := n5_; have NB581_580 := n6_; clear n0_ n1_ n2_ n3_ n4_ n5_ n6_; clear hb hbox hg; have hnb20 := NB580_581.out; have hnc20 := NB581_580.out; obtain ⟨hcz21_0, hcz21_1, hcz21_2⟩ := cells3 BK580.out; obtain ⟨hfz21_0, hfz21_1, hfz21_2⟩ := frz3 BK580.out; obtain ⟨hcz22_0, hcz22_1, hcz22_2⟩ := cells3 BK581.out; obtain ⟨hfz22_0, hfz22_1, hfz22_2⟩ := frz3 BK581.out) | ((with_reducible refine gate_callee (f := 32) rfl ?_); refine goesS (some 14) Tryd.func32 #[.slice A0_1 l0_1.length c0_1, .slice A1_1 l1_1.length c1_1] ?_; (with_reducible refine (laws_eqInt64S.calls k _ _ l0_1 _ _ l1_1 false _ ?side1 ?side2 ?side3 ?side4 A4.out).mono ?_); (case side1 => exact cP (Kd.C_below HR0_1.out HB.out)); (case side2 => exact HC0_1.out); (case side3 => exact cP (Kd.C_below HR1_1.out HB.out)); (case side4 => exact HC1_1.out); rintro e w' ⟨rfl, ⟨nd, rfl⟩⟩; refine ⟨_, rfl, ?_⟩))
   go_ret
   exact ⟨eW, bW⟩
 ·rw [if_neg c3] at H
  have c3b0 : (a0_0 == a1_0) = false := beq_eq_false_iff_ne.mpr c3
  have c3b1 : (a0_0 != a1_0) = true := bne_iff_ne.mpr c3
  obtain rfl := Option.some.inj H
  go_enter Tryd.func135, Tryd.ntmps135
  go_wp2_with (first | ((with_reducible refine gate_dst (N := 2) rfl ?_); refine boxS (N := 2) (cs := #[.int .i64 a0_0, .slice A0_1 l0_1.length c0_1, .slice A0_2 l0_2.length c0_2]) (t := 149) ?_; intro gb580 hg w23 hbox hb; have n0_ := Aside0.mk (below_step (bW) hb); have n1_ := Aside0.mk (hbox); have n2_ := geW (w := w) hg; have n3_ := geW (w := w) hg; clear HB; have HB := n0_; have BK580 := n1_; have GW580 := n2_; have GE580 := n3_; clear n0_ n1_ n2_ n3_; clear hb hbox hg) | ((with_reducible refine gate_dst (N := 3) rfl ?_); refine boxS (N := 3) (cs := #[.int .i64 a1_0, .slice A1_1 l1_1.length c1_1, .slice A1_2 l1_2.length c1_2]) (t := 149) ?_; intro gb581 hg w24 hbox hb; have n0_ := Aside0.mk (blkB BK580.out hb); have n1_ := Aside0.mk (below_step (bW) hb); have n2_ := Aside0.mk (hbox); have n3_ := geW (w := w) hg; have n4_ := geW (w := w) hg; have n5_ := Aside0.mk ((by rw [hg]; exact Nat.ne_of_lt (blk_lt (g := gb580) (o := .cells #[.int .i64 a0_0, .slice A0_1 l0_1.length c0_1, .slice A0_2 l0_2.length c0_2] 149 (0, 0)) (bP BK580.out)) : gb580 ≠ gb581)); have n6_ := Aside0.mk ((by rw [hg]; exact Nat.ne_of_gt (blk_lt (g := gb580) (o := .cells #[.int .i64 a0_0, .slice A0_1 l0_1.length c0_1, .slice A0_2 l0_2.length c0_2] 149 (0, 0)) (bP BK580.out)) : gb581 ≠ gb580)); clear BK580; clear HB; have BK580 := n0_; have HB := n1_; have BK581 := n2_; have GW581 := n3_; have GE581 := n4_; have NB580_581 := n5_; have NB581_580 := n6_; clear n0_ n1_ n2_ n3_ n4_ n5_ n6_; clear hb hbox hg; have hnb25 := NB580_581.out; have hnc25 := NB581_580.out; obtain ⟨hcz26_0, hcz26_1, hcz26_2⟩ := cells3 BK580.out; obtain ⟨hfz26_0, hfz26_1, hfz26_2⟩ := frz3 BK580.out; obtain ⟨hcz27_0, hcz27_1, hcz27_2⟩ := cells3 BK581.out; obtain ⟨hfz27_0, hfz27_1, hfz27_2⟩ := frz3 BK581.out))
  go_ret
  exact ⟨eW, bW⟩

/-! ### laws_eqJointS: function 85 -/
def laws_eqJointS.l0 : Nat → List (S149) → List (S149) → Int → Option (Bool)
 | 0, _, _, _ => none
 | k + 1, x0, x1, x5 => if x5 < (x0.length : Int) then (if 0 ≤ x5 then (if x5 < (x1.length : Int) then ((laws_eqJoint.f k ((rd_T149 x0 x5).f0) ((rd_T149 x0 x5).f1) ((rd_T149 x0 x5).f2) ((rd_T149 x1 x5).f0) ((rd_T149 x1 x5).f1) ((rd_T149 x1 x5).f2)).bind fun t586 => (if t586 = true then (laws_eqJointS.l0 k x0 x1 (wrap64 (x5 + 1))) else (some false))) else (none)) else (none)) else (some true)
def laws_eqJointS.f (k : Nat) (l0 : List (S149)) (l1 : List (S149)) : Option (Bool) := if (l0.length : Int) = (l1.length : Int) then (laws_eqJointS.l0 k l0 l1 0) else (some false)
theorem laws_eqJointS.mono_l : ∀ k, (∀ y0 y1 y2, LeO (laws_eqJointS.l0 k y0 y1 y2) (laws_eqJointS.l0 (k + 1) y0 y1 y2))
 | 0 => fun _ _ _ r h => by simp [laws_eqJointS.l0] at h
 | k + 1 => by
  have ih0 := laws_eqJointS.mono_l k
  ·intro y0 y1 y2
   unfold laws_eqJointS.l0
   repeat' first
   | (with_reducible exact ih0 _ _ _)
   | (with_reducible exact laws_eqJoint.mono _ _ _ _ _ _ _)
   | (with_reducible exact LeO.refl _)
   | (with_reducible exact LeO.none _)
   | (with_reducible refine LeO.ite ?_ ?_)
   | (with_reducible refine LeO.bind ?_ (fun _ => ?_))
   | exact ih0 _ _ _
   | exact laws_eqJoint.mono _ _ _ _ _ _ _
   | exact LeO.none _
   | refine LeO.ite ?_ ?_
   | refine LeO.bind ?_ (fun _ => ?_)
theorem laws_eqJointS.mono : ∀ a0 a1 k, LeO (laws_eqJointS.f k a0 a1) (laws_eqJointS.f (k + 1) a0 a1) := by
 intro a0 a1 k
 have ih0 := laws_eqJointS.mono_l k
 unfold laws_eqJointS.f
 repeat' first
   | (with_reducible exact ih0 _ _ _)
   | (with_reducible exact laws_eqJoint.mono _ _ _ _ _ _ _)
   | (with_reducible exact LeO.refl _)
   | (with_reducible exact LeO.none _)
   | (with_reducible refine LeO.ite ?_ ?_)
   | (with_reducible refine LeO.bind ?_ (fun _ => ?_))
   | exact ih0 _ _ _
   | exact laws_eqJoint.mono _ _ _ _ _ _ _
   | exact LeO.none _
   | refine LeO.ite ?_ ?_
   | refine LeO.bind ?_ (fun _ => ?_)
def laws_eqJointS.T6 : Bool × List (List Nat × List Nat) := (true, [([], []), ([], []), ([0, 1], [0, 1]), ([2], [2]), ([], []), ([], []), ([4, 5], [4, 5]), ([6], [6]), ([3, 7], [3, 7]), ([8], [8])])
def laws_eqJointS.B6 : List Nat := [0, 0, 3, 7, 0, 0, 48, 112, 255, 511]
theorem laws_eqJointS.tab6 : rtab .any (opsOf Tryd.f85 6) = laws_eqJointS.T6 := by kernel_rfl
theorem laws_eqJointS.bits6 : waitsOk laws_eqJointS.T6.2 laws_eqJointS.B6 = true := by kernel_rfl
set_option maxHeartbeats 8000000 in
set_option maxRecDepth 100000 in
theorem laws_eqJointS.calls (k : Nat) (A0 : Option Addr) (c0 : Nat) (l0 : List (S149)) (A1 : Option Addr) (c1 : Nat) (l1 : List (S149)) (r : Bool) (w : World) (hr0 : Kd.C k149 w A0 l0.length l0) (hc0 : l0.length ≤ c0) (hr1 : Kd.C k149 w A1 l1.length l1) (hc1 : l1.length ≤ c1) (h : laws_eqJointS.f k l0 l1 = some r) :
  Calls Tryd.prog 85 #[.slice A0 l0.length c0, .slice A1 l1.length c1] w fun e w' => e = .returned (.bool r) ∧ Below w.heap.size w w' := by
 have hu149 := Tryd.underlying149
 have HR0 := Aside0.mk hr0
 have HC0 := Aside0.mk hc0
 clear hr0 hc0
 have HR1 := Aside0.mk hr1
 have HC1 := Aside0.mk hc1
 clear hr1 hc1
 have HB := Aside0.mk (Below.refl w.heap.size w)
 have H : (if (l0.length : Int) = (l1.length : Int) then (laws_eqJointS.l0 k l0 l1 0) else (some false)) = some r := h
 clear h
 by_cases c3 : (l0.length : Int) = (l1.length : Int)
 ·rw [if_pos c3] at H
  have c3b0 : ((l0.length : Int) == (l1.length : Int)) = true := beq_iff_eq.mpr c3
  have c3b1 : ((l0.length : Int) != (l1.length : Int)) = false := bne_eq_false_iff_eq.mpr c3
  have c3b2 : (l0.length == l1.length) = true := by first | simpa using c3 | (simp at c3 ⊢; omega)
  clear c3
  have H' := Aside0.mk H
  clear H
  go_enter Tryd.func85, Tryd.ntmps85
  go_wp2
  go_loopg [5] k (fun kq v5 w' => ∃ (x5_1 : Int), v5 = .int .i64 x5_1 ∧ Aside0 (laws_eqJointS.l0 kq l0 l1 x5_1 = some r) ∧ Aside0 (kq ≤ k) ∧ Aside0 (Below w.heap.size w w'))
  case atStart => exact ⟨(0), (eW), H', ⟨Nat.le_refl _⟩, ⟨bW⟩⟩
  case round =>
   clear H'
   try clear c1
   try clear p2
   try clear c3
   try clear c3b0
   try clear c3b1
   try clear c3b2
   obtain ⟨x5_1, rfl, HA, HK1, HB⟩ := hrel
   cases gk with
   | zero => exact absurd HA.out (by simp [laws_eqJointS.l0])
   | succ k1 =>
    have H := HA.out
    clear HA
    simp only [laws_eqJointS.l0] at H
    by_cases c4 : x5_1 < (l0.length : Int)
    ·rw [if_pos c4] at H
     have c4b0 : decide (x5_1 < (l0.length : Int)) = true := decide_eq_true c4
     clear c4
     by_cases c5 : 0 ≤ x5_1
     ·rw [if_pos c5] at H
      have c5b0 : decide (0 ≤ x5_1) = true := decide_eq_true c5
      clear c5
      by_cases c6 : x5_1 < (l1.length : Int)
      ·rw [if_pos c6] at H
       have c6b0 : decide (x5_1 < (l1.length : Int)) = true := decide_eq_true c6
       clear c6
       replace H := Option.bind_eq_some_iff.mp H
       obtain ⟨t586, A70, H⟩ := H
       replace H : (if t586 = true then (laws_eqJointS.l0 k1 l0 l1 (wrap64 (x5_1 + 1))) else (some false)) = some r := H
       have A7 := Aside0.mk A70
       clear A70
       by_cases c8 : t586 = true
       ·subst c8
        have H1 : (laws_eqJointS.l0 k1 l0 l1 (wrap64 (x5_1 + 1))) = some r := by rw [if_pos rfl] at H; exact H
        clear H
        have H := H1
        clear H1
        have H' := Aside0.mk H
        clear H
        try go_wp2
        have n0_ := Aside0.mk (below_drew1 HB.out)
        clear HB
        have HB := n0_
        clear n0_
        have p584 : 0 ≤ (x5_1 : Int) := ofD
        have q584 : x5_1 < (l0.length : Int) := ofD
        obtain ⟨ad584, A584_1, c584_1, A584_2, c584_2, e584, hx584_0, hx584_1, hx584_2, hl584_1, hi584_1, hl584_2, hi584_2⟩ := at_T149 HR0.out x5_1 p584 q584
        have hw584_2 := hx584_2
        have hw584_1 := hx584_1
        have hw584_0 := hx584_0
        cases e584
        replace hx584_0 := (HB.out.cell (World.block_lt_of_cell? w _ hx584_0)).trans hx584_0
        replace hx584_1 := (HB.out.cell (World.block_lt_of_cell? w _ hx584_1)).trans hx584_1
        replace hx584_2 := (HB.out.cell (World.block_lt_of_cell? w _ hx584_2)).trans hx584_2
        have HR584_1 := Aside0.mk hi584_1
        have HC584_1 := Aside0.mk hl584_1
        clear hi584_1 hl584_1
        have HR584_2 := Aside0.mk hi584_2
        have HC584_2 := Aside0.mk hl584_2
        clear hi584_2 hl584_2
        replace p584 := eq_true p584
        replace q584 := eq_true q584
        have p585 : 0 ≤ (x5_1 : Int) := ofD
        have q585 : x5_1 < (l1.length : Int) := ofD
        obtain ⟨ad585, A585_1, c585_1, A585_2, c585_2, e585, hx585_0, hx585_1, hx585_2, hl585_1, hi585_1, hl585_2, hi585_2⟩ := at_T149 HR1.out x5_1 p585 q585
        have hw585_2 := hx585_2
        have hw585_1 := hx585_1
        have hw585_0 := hx585_0
        cases e585
        replace hx585_0 := (HB.out.cell (World.block_lt_of_cell? w _ hx585_0)).trans hx585_0
        replace hx585_1 := (HB.out.cell (World.block_lt_of_cell? w _ hx585_1)).trans hx585_1
        replace hx585_2 := (HB.out.cell (World.block_lt_of_cell? w _ hx585_2)).trans hx585_2
        have HR585_1 := Aside0.mk hi585_1
        have HC585_1 := Aside0.mk hl585_1
        clear hi585_1 hl585_1
        have HR585_2 := Aside0.mk hi585_2
        have HC585_2 := Aside0.mk hl585_2
        clear hi585_2 hl585_2
        replace p585 := eq_true p585
        replace q585 := eq_true q585
        refine start_ (n := 10) (S := fun w' => w'.cell? (ad584.add ((x5_1).toNat * 3)) = some (.int .i64 ((rd_T149 l0 x5_1).f0)) ∧ w'.cell? ⟨(ad584.add ((x5_1).toNat * 3)).block, (ad584.add ((x5_1).toNat * 3)).off + 1, none⟩ = some (.slice A584_1 ((rd_T149 l0 x5_1).f1).length c584_1) ∧ w'.cell? ⟨(ad584.add ((x5_1).toNat * 3)).block, (ad584.add ((x5_1).toNat * 3)).off + 2, none⟩ = some (.slice A584_2 ((rd_T149 l0 x5_1).f2).length c584_2) ∧ w'.cell? (ad585.add ((x5_1).toNat * 3)) = some (.int .i64 ((rd_T149 l1 x5_1).f0)) ∧ w'.cell? ⟨(ad585.add ((x5_1).toNat * 3)).block, (ad585.add ((x5_1).toNat * 3)).off + 1, none⟩ = some (.slice A585_1 ((rd_T149 l1 x5_1).f1).length c585_1) ∧ w'.cell? ⟨(ad585.add ((x5_1).toNat * 3)).block, (ad585.add ((x5_1).toNat * 3)).off + 2, none⟩ = some (.slice A585_2 ((rd_T149 l1 x5_1).f2).length c585_2)) (ds := []) #[false, false, false, false, false, false, false, false, false, false] (by kernel_rfl) rfl rfl ⟨((HB.out.cell (World.block_lt_of_cell? w _ hw584_0)).trans hw584_0), ((HB.out.cell (World.block_lt_of_cell? w _ hw584_1)).trans hw584_1), ((HB.out.cell (World.block_lt_of_cell? w _ hw584_2)).trans hw584_2), ((HB.out.cell (World.block_lt_of_cell? w _ hw585_0)).trans hw585_0), ((HB.out.cell (World.block_lt_of_cell? w _ hw585_1)).trans hw585_1), ((HB.out.cell (World.block_lt_of_cell? w _ hw585_2)).trans hw585_2)⟩ (fun hHeld => ?_); refine with_tabW laws_eqJointS.tab6 laws_eqJointS.bits6 (fun HT_ HW_ => ?_)
        generalize wr.drew = w9 at HB HR584_1 HR584_2 HR585_1 HR585_2 hx584_0 hx584_1 hx584_2 hx585_0 hx585_1 hx585_2 hHeld ⊢
        refine pureS (i := 0) (N := some 17) (any_of HT_.out (by kernel_rfl)) ?_
        refine pureS (i := 1) (N := some 18) (any_of HT_.out (by kernel_rfl)) ?_
        refine pureS (i := 2) (N := some 19) (any_of HT_.out (by kernel_rfl)) ?_
        refine pureS (i := 4) (N := some 21) (any_of HT_.out (by kernel_rfl)) ?_
        refine pureS (i := 5) (N := some 22) (any_of HT_.out (by kernel_rfl)) ?_
        refine pureS (i := 6) (N := some 23) (any_of HT_.out (by kernel_rfl)) ?_
        refine takeS (i := 3) (N := some 20) (take_ofW HT_.out HW_.out (by kernel_rfl)) hHeld ?_
        refine takeS (i := 7) (N := some 24) (take_ofW HT_.out HW_.out (by kernel_rfl)) hHeld ?_
        refine one_ (i := 8) (N := some 25) #[true, true, true, true, true, true, true, true, true, false] rfl rfl (one_of HT_.out (by kernel_rfl)) (by decide) (fun K hK => ?_)
        refine goes_ Tryd.func135 (by kernel_rfl) rfl #[.agg #[.int .i64 ((rd_T149 l0 x5_1).f0), .slice A584_1 ((rd_T149 l0 x5_1).f1).length c584_1, .slice A584_2 ((rd_T149 l0 x5_1).f2).length c584_2], .agg #[.int .i64 ((rd_T149 l1 x5_1).f0), .slice A585_1 ((rd_T149 l1 x5_1).f1).length c585_1, .slice A585_2 ((rd_T149 l1 x5_1).f2).length c585_2]] (by rfl) rfl rfl (by (try simp only [List.map_toArray, List.map_cons, List.map_nil]); first | done | rfl | (simp only [List.length_drop, List.length_take]; rfl)) ?_
        with_reducible refine (laws_eqJoint.calls k1 ((rd_T149 l0 x5_1).f0) _ _ ((rd_T149 l0 x5_1).f1) _ _ ((rd_T149 l0 x5_1).f2) ((rd_T149 l1 x5_1).f0) _ _ ((rd_T149 l1 x5_1).f1) _ _ ((rd_T149 l1 x5_1).f2) true _ ?side1 ?side2 ?side3 ?side4 ?side5 ?side6 ?side7 ?side8 A7.out).mono ?_
        (case side1 => exact cP (Kd.C_below HR584_1.out HB.out))
        (case side2 => exact HC584_1.out)
        (case side3 => exact cP (Kd.C_below HR584_2.out HB.out))
        (case side4 => exact HC584_2.out)
        (case side5 => exact cP (Kd.C_below HR585_1.out HB.out))
        (case side6 => exact HC585_1.out)
        (case side7 => exact cP (Kd.C_below HR585_2.out HB.out))
        (case side8 => exact HC585_2.out)
        rintro e w10 ⟨rfl, hb⟩
        refine ⟨_, rfl, ?_⟩
        have n0_ := Aside0.mk (below_step (bW) hb)
        clear HB
        have HB := n0_
        clear n0_
        (try clear hb)
        (try clear hb2)
        (try clear hk)
        (try clear hi)
        refine hK.out _ _ ⟨((HB.out.cell (World.block_lt_of_cell? w _ hw584_0)).trans hw584_0), ((HB.out.cell (World.block_lt_of_cell? w _ hw584_1)).trans hw584_1), ((HB.out.cell (World.block_lt_of_cell? w _ hw584_2)).trans hw584_2), ((HB.out.cell (World.block_lt_of_cell? w _ hw585_0)).trans hw585_0), ((HB.out.cell (World.block_lt_of_cell? w _ hw585_1)).trans hw585_1), ((HB.out.cell (World.block_lt_of_cell? w _ hw585_2)).trans hw585_2)⟩ (fun hHeld => ?_)
        clear hK K
        refine norm_ (a' := ?_) ?_ ?_
        rotate_left
        ·show Act.put _ (some 25) _ = _
         simp only [Act.put, List.setIfInBounds_toArray, List.set_cons_zero, List.set_cons_succ, i64_w, i32_w]
         rfl
        refine pureS (i := 9) (N := some 26) (any_of HT_.out (by kernel_rfl)) ?_
        refine done_ (done_of HT_.out (by kernel_rfl)) ?_
        try go_wp2
        go_roundg k1
        case measure => have := HK1.out; omega
        case rel => exact ⟨(wrap64 (x5_1 + 1)), (eW), H', ⟨by have := HK1.out; omega⟩, ⟨bW⟩⟩
       ·replace c8 := Bool.eq_false_iff.mpr c8
        subst c8
        have H1 : (some false) = some r := by rw [if_neg (show ¬ (false = true) by decide)] at H; exact H
        clear H
        have H := H1
        clear H1
        obtain rfl := Option.some.inj H
        try go_wp2
        have n0_ := Aside0.mk (below_drew1 HB.out)
        clear HB
        have HB := n0_
        clear n0_
        have p584 : 0 ≤ (x5_1 : Int) := ofD
        have q584 : x5_1 < (l0.length : Int) := ofD
        obtain ⟨ad584, A584_1, c584_1, A584_2, c584_2, e584, hx584_0, hx584_1, hx584_2, hl584_1, hi584_1, hl584_2, hi584_2⟩ := at_T149 HR0.out x5_1 p584 q584
        have hw584_2 := hx584_2
        have hw584_1 := hx584_1
        have hw584_0 := hx584_0
        cases e584
        replace hx584_0 := (HB.out.cell (World.block_lt_of_cell? w _ hx584_0)).trans hx584_0
        replace hx584_1 := (HB.out.cell (World.block_lt_of_cell? w _ hx584_1)).trans hx584_1
        replace hx584_2 := (HB.out.cell (World.block_lt_of_cell? w _ hx584_2)).trans hx584_2
        have HR584_1 := Aside0.mk hi584_1
        have HC584_1 := Aside0.mk hl584_1
        clear hi584_1 hl584_1
        have HR584_2 := Aside0.mk hi584_2
        have HC584_2 := Aside0.mk hl584_2
        clear hi584_2 hl584_2
        replace p584 := eq_true p584
        replace q584 := eq_true q584
        have p585 : 0 ≤ (x5_1 : Int) := ofD
        have q585 : x5_1 < (l1.length : Int) := ofD
        obtain ⟨ad585, A585_1, c585_1, A585_2, c585_2, e585, hx585_0, hx585_1, hx585_2, hl585_1, hi585_1, hl585_2, hi585_2⟩ := at_T149 HR1.out x5_1 p585 q585
        have hw585_2 := hx585_2
        have hw585_1 := hx585_1
        have hw585_0 := hx585_0
        cases e585
        replace hx585_0 := (HB.out.cell (World.block_lt_of_cell? w _ hx585_0)).trans hx585_0
        replace hx585_1 := (HB.out.cell (World.block_lt_of_cell? w _ hx585_1)).trans hx585_1
        replace hx585_2 := (HB.out.cell (World.block_lt_of_cell? w _ hx585_2)).trans hx585_2
        have HR585_1 := Aside0.mk hi585_1
        have HC585_1 := Aside0.mk hl585_1
        clear hi585_1 hl585_1
        have HR585_2 := Aside0.mk hi585_2
        have HC585_2 := Aside0.mk hl585_2
        clear hi585_2 hl585_2
        replace p585 := eq_true p585
        replace q585 := eq_true q585
        refine start_ (n := 10) (S := fun w' => w'.cell? (ad584.add ((x5_1).toNat * 3)) = some (.int .i64 ((rd_T149 l0 x5_1).f0)) ∧ w'.cell? ⟨(ad584.add ((x5_1).toNat * 3)).block, (ad584.add ((x5_1).toNat * 3)).off + 1, none⟩ = some (.slice A584_1 ((rd_T149 l0 x5_1).f1).length c584_1) ∧ w'.cell? ⟨(ad584.add ((x5_1).toNat * 3)).block, (ad584.add ((x5_1).toNat * 3)).off + 2, none⟩ = some (.slice A584_2 ((rd_T149 l0 x5_1).f2).length c584_2) ∧ w'.cell? (ad585.add ((x5_1).toNat * 3)) = some (.int .i64 ((rd_T149 l1 x5_1).f0)) ∧ w'.cell? ⟨(ad585.add ((x5_1).toNat * 3)).block, (ad585.add ((x5_1).toNat * 3)).off + 1, none⟩ = some (.slice A585_1 ((rd_T149 l1 x5_1).f1).length c585_1) ∧ w'.cell? ⟨(ad585.add ((x5_1).toNat * 3)).block, (ad585.add ((x5_1).toNat * 3)).off + 2, none⟩ = some (.slice A585_2 ((rd_T149 l1 x5_1).f2).length c585_2)) (ds := []) #[false, false, false, false, false, false, false, false, false, false] (by kernel_rfl) rfl rfl ⟨((HB.out.cell (World.block_lt_of_cell? w _ hw584_0)).trans hw584_0), ((HB.out.cell (World.block_lt_of_cell? w _ hw584_1)).trans hw584_1), ((HB.out.cell (World.block_lt_of_cell? w _ hw584_2)).trans hw584_2), ((HB.out.cell (World.block_lt_of_cell? w _ hw585_0)).trans hw585_0), ((HB.out.cell (World.block_lt_of_cell? w _ hw585_1)).trans hw585_1), ((HB.out.cell (World.block_lt_of_cell? w _ hw585_2)).trans hw585_2)⟩ (fun hHeld => ?_); refine with_tabW laws_eqJointS.tab6 laws_eqJointS.bits6 (fun HT_ HW_ => ?_)
        generalize wr.drew = w11 at HB HR584_1 HR584_2 HR585_1 HR585_2 hx584_0 hx584_1 hx584_2 hx585_0 hx585_1 hx585_2 hHeld ⊢
        refine pureS (i := 0) (N := some 17) (any_of HT_.out (by kernel_rfl)) ?_
        refine pureS (i := 1) (N := some 18) (any_of HT_.out (by kernel_rfl)) ?_
        refine pureS (i := 2) (N := some 19) (any_of HT_.out (by kernel_rfl)) ?_
        refine pureS (i := 4) (N := some 21) (any_of HT_.out (by kernel_rfl)) ?_
        refine pureS (i := 5) (N := some 22) (any_of HT_.out (by kernel_rfl)) ?_
        refine pureS (i := 6) (N := some 23) (any_of HT_.out (by kernel_rfl)) ?_
        refine takeS (i := 3) (N := some 20) (take_ofW HT_.out HW_.out (by kernel_rfl)) hHeld ?_
        refine takeS (i := 7) (N := some 24) (take_ofW HT_.out HW_.out (by kernel_rfl)) hHeld ?_
        refine one_ (i := 8) (N := some 25) #[true, true, true, true, true, true, true, true, true, false] rfl rfl (one_of HT_.out (by kernel_rfl)) (by decide) (fun K hK => ?_)
        refine goes_ Tryd.func135 (by kernel_rfl) rfl #[.agg #[.int .i64 ((rd_T149 l0 x5_1).f0), .slice A584_1 ((rd_T149 l0 x5_1).f1).length c584_1, .slice A584_2 ((rd_T149 l0 x5_1).f2).length c584_2], .agg #[.int .i64 ((rd_T149 l1 x5_1).f0), .slice A585_1 ((rd_T149 l1 x5_1).f1).length c585_1, .slice A585_2 ((rd_T149 l1 x5_1).f2).length c585_2]] (by rfl) rfl rfl (by (try simp only [List.map_toArray, List.map_cons, List.map_nil]); first | done | rfl | (simp only [List.length_drop, List.length_take]; rfl)) ?_
        with_reducible refine (laws_eqJoint.calls k1 ((rd_T149 l0 x5_1).f0) _ _ ((rd_T149 l0 x5_1).f1) _ _ ((rd_T149 l0 x5_1).f2) ((rd_T149 l1 x5_1).f0) _ _ ((rd_T149 l1 x5_1).f1) _ _ ((rd_T149 l1 x5_1).f2) false _ ?side1 ?side2 ?side3 ?side4 ?side5 ?side6 ?side7 ?side8 A7.out).mono ?_
        (case side1 => exact cP (Kd.C_below HR584_1.out HB.out))
        (case side2 => exact HC584_1.out)
        (case side3 => exact cP (Kd.C_below HR584_2.out HB.out))
        (case side4 => exact HC584_2.out)
        (case side5 => exact cP (Kd.C_below HR585_1.out HB.out))
        (case side6 => exact HC585_1.out)
        (case side7 => exact cP (Kd.C_below HR585_2.out HB.out))
        (case side8 => exact HC585_2.out)
        rintro e w12 ⟨rfl, hb⟩
        refine ⟨_, rfl, ?_⟩
        have n0_ := Aside0.mk (below_step (bW) hb)
        clear HB
        have HB := n0_
        clear n0_
        (try clear hb)
        (try clear hb2)
        (try clear hk)
        (try clear hi)
        refine hK.out _ _ ⟨((HB.out.cell (World.block_lt_of_cell? w _ hw584_0)).trans hw584_0), ((HB.out.cell (World.block_lt_of_cell? w _ hw584_1)).trans hw584_1), ((HB.out.cell (World.block_lt_of_cell? w _ hw584_2)).trans hw584_2), ((HB.out.cell (World.block_lt_of_cell? w _ hw585_0)).trans hw585_0), ((HB.out.cell (World.block_lt_of_cell? w _ hw585_1)).trans hw585_1), ((HB.out.cell (World.block_lt_of_cell? w _ hw585_2)).trans hw585_2)⟩ (fun hHeld => ?_)
        clear hK K
        refine norm_ (a' := ?_) ?_ ?_
        rotate_left
        ·show Act.put _ (some 25) _ = _
         simp only [Act.put, List.setIfInBounds_toArray, List.set_cons_zero, List.set_cons_succ, i64_w, i32_w]
         rfl
        refine pureS (i := 9) (N := some 26) (any_of HT_.out (by kernel_rfl)) ?_
        refine done_ (done_of HT_.out (by kernel_rfl)) ?_
        try go_wp2
        go_ret
        exact ⟨eW, bW⟩
      ·rw [if_neg c6] at H
       exact absurd H (by simp)
     ·rw [if_neg c5] at H
      exact absurd H (by simp)
    ·rw [if_neg c4] at H
     have c4b0 : decide (x5_1 < (l0.length : Int)) = false := decide_eq_false c4
     clear c4
     obtain rfl := Option.some.inj H
     go_wp2
     go_ret
     exact ⟨eW, bW⟩
 ·rw [if_neg c3] at H
  have c3b0 : ((l0.length : Int) == (l1.length : Int)) = false := beq_eq_false_iff_ne.mpr c3
  have c3b1 : ((l0.length : Int) != (l1.length : Int)) = true := bne_iff_ne.mpr c3
  have c3b2 : (l0.length == l1.length) = false := by first | simpa using c3 | (simp at c3 ⊢; omega)
  obtain rfl := Option.some.inj H
  go_enter Tryd.func85, Tryd.ntmps85
  go_wp2
  go_ret
  exact ⟨eW, bW⟩

/-! ### laws_eqAsynchronous: function 41 -/
def laws_eqAsynchronous.f (k : Nat) (l0_0 : List Int) (l0_1 : List Int) (l0_2 : List Int) (l0_3 : List (S149)) (l0_4 : List (List Int)) (l1_0 : List Int) (l1_1 : List Int) (l1_2 : List Int) (l1_3 : List (S149)) (l1_4 : List (List Int)) : Option (Bool) := (laws_eqInt64S.f k l0_0 l1_0).bind fun t589 => (if t589 = true then ((laws_eqInt64S.f k l0_1 l1_1).bind fun t590 => (if t590 = true then ((laws_eqInt64S.f k l0_2 l1_2).bind fun t591 => (if t591 = true then ((laws_eqJointS.f k l0_3 l1_3).bind fun t592 => (if t592 = true then ((laws_eqInt64SS.f k l0_4 l1_4).bind fun t593 => (if t593 = true then (some true) else (some false))) else (some false))) else (some false))) else (some false))) else (some false))
theorem laws_eqAsynchronous.mono : ∀ a0 a1 a2 a3 a4 a5 a6 a7 a8 a9 k, LeO (laws_eqAsynchronous.f k a0 a1 a2 a3 a4 a5 a6 a7 a8 a9) (laws_eqAsynchronous.f (k + 1) a0 a1 a2 a3 a4 a5 a6 a7 a8 a9) := by
 intro a0 a1 a2 a3 a4 a5 a6 a7 a8 a9 k
 unfold laws_eqAsynchronous.f
 repeat' first
   | (with_reducible exact laws_eqInt64S.mono _ _ _)
   | (with_reducible exact laws_eqInt64SS.mono _ _ _)
   | (with_reducible exact laws_eqJointS.mono _ _ _)
   | (with_reducible exact LeO.refl _)
   | (with_reducible exact LeO.none _)
   | (with_reducible refine LeO.ite ?_ ?_)
   | (with_reducible refine LeO.bind ?_ (fun _ => ?_))
   | exact laws_eqInt64S.mono _ _ _
   | exact laws_eqInt64SS.mono _ _ _
   | exact laws_eqJointS.mono _ _ _
   | exact LeO.none _
   | refine LeO.ite ?_ ?_
   | refine LeO.bind ?_ (fun _ => ?_)
set_option maxHeartbeats 8000000 in
set_option maxRecDepth 100000 in
theorem laws_eqAsynchronous.calls (k : Nat) (A0_0 : Option Addr) (c0_0 : Nat) (l0_0 : List Int) (A0_1 : Option Addr) (c0_1 : Nat) (l0_1 : List Int) (A0_2 : Option Addr) (c0_2 : Nat) (l0_2 : List Int) (A0_3 : Option Addr) (c0_3 : Nat) (l0_3 : List (S149)) (A0_4 : Option Addr) (c0_4 : Nat) (l0_4 : List (List Int)) (A1_0 : Option Addr) (c1_0 : Nat) (l1_0 : List Int) (A1_1 : Option Addr) (c1_1 : Nat) (l1_1 : List Int) (A1_2 : Option Addr) (c1_2 : Nat) (l1_2 : List Int) (A1_3 : Option Addr) (c1_3 : Nat) (l1_3 : List (S149)) (A1_4 : Option Addr) (c1_4 : Nat) (l1_4 : List (List Int)) (r : Bool) (w : World) (hr0_0 : Kd.C (Kd.int .i64) w A0_0 l0_0.length l0_0) (hc0_0 : l0_0.length ≤ c0_0) (hr0_1 : Kd.C (Kd.int .i64) w A0_1 l0_1.length l0_1) (hc0_1 : l0_1.length ≤ c0_1) (hr0_2 : Kd.C (Kd.int .i64) w A0_2 l0_2.length l0_2) (hc0_2 : l0_2.length ≤ c0_2) (hr0_3 : Kd.C k149 w A0_3 l0_3.length l0_3) (hc0_3 : l0_3.length ≤ c0_3) (hr0_4 : Kd.C (Kd.slice 2 (Kd.int .i64)) w A0_4 l0_4.length l0_4) (hc0_4 : l0_4.length ≤ c0_4) (hr1_0 : Kd.C (Kd.int .i64) w A1_0 l1_0.length l1_0) (hc1_0 : l1_0.length ≤ c1_0) (hr1_1 : Kd.C (Kd.int .i64) w A1_1 l1_1.length l1_1) (hc1_1 : l1_1.length ≤ c1_1) (hr1_2 : Kd.C (Kd.int .i64) w A1_2 l1_2.length l1_2) (hc1_2 : l1_2.length ≤ c1_2) (hr1_3 : Kd.C k149 w A1_3 l1_3.length l1_3) (hc1_3 : l1_3.length ≤ c1_3) (hr1_4 : Kd.C (Kd.slice 2 (Kd.int .i64)) w A1_4 l1_4.length l1_4) (hc1_4 : l1_4.length ≤ c1_4) (h : laws_eqAsynchronous.f k l0_0 l0_1 l0_2 l0_3 l0_4 l1_0 l1_1 l1_2 l1_3 l1_4 = some r) :
  Calls Tryd.prog 41 #[.agg #[.slice A0_0 l0_0.length c0_0, .slice A0_1 l0_1.length c0_1, .slice A0_2 l0_2.length c0_2, .slice A0_3 l0_3.length c0_3, .slice A0_4 l0_4.length c0_4], .agg #[.slice A1_0 l1_0.length c1_0, .slice A1_1 l1_1.length c1_1, .slice A1_2 l1_2.length c1_2, .slice A1_3 l1_3.length c1_3, .slice A1_4 l1_4.length c1_4]] w fun e w' => e = .returned (.bool r) ∧ Below w.heap.size w w' := by
 have hu65 := Tryd.underlying65
 have HR0_0 := Aside0.mk hr0_0
 have HC0_0 := Aside0.mk hc0_0
 clear hr0_0 hc0_0
 have HR0_1 := Aside0.mk hr0_1
 have HC0_1 := Aside0.mk hc0_1
 clear hr0_1 hc0_1
 have HR0_2 := Aside0.mk hr0_2
 have HC0_2 := Aside0.mk hc0_2
 clear hr0_2 hc0_2
 have HR0_3 := Aside0.mk hr0_3
 have HC0_3 := Aside0.mk hc0_3
 clear hr0_3 hc0_3
 have HR0_4 := Aside0.mk hr0_4
 have HC0_4 := Aside0.mk hc0_4
 clear hr0_4 hc0_4
 have HR1_0 := Aside0.mk hr1_0
 have HC1_0 := Aside0.mk hc1_0
 clear hr1_0 hc1_0
 have HR1_1 := Aside0.mk hr1_1
 have HC1_1 := Aside0.mk hc1_1
 clear hr1_1 hc1_1
 have HR1_2 := Aside0.mk hr1_2
 have HC1_2 := Aside0.mk hc1_2
 clear hr1_2 hc1_2
 have HR1_3 := Aside0.mk hr1_3
 have HC1_3 := Aside0.mk hc1_3
 clear hr1_3 hc1_3
 have HR1_4 := Aside0.mk hr1_4
 have HC1_4 := Aside0.mk hc1_4
 clear hr1_4 hc1_4
 have HB := Aside0.mk (Below.refl w.heap.size w)
 have H : ((laws_eqInt64S.f k l0_0 l1_0).bind fun t589 => (if t589 = true then ((laws_eqInt64S.f k l0_1 l1_1).bind fun t590 => (if t590 = true then ((laws_eqInt64S.f k l0_2 l1_2).bind fun t591 => (if t591 = true then ((laws_eqJointS.f k l0_3 l1_3).bind fun t592 => (if t592 = true then ((laws_eqInt64SS.f k l0_4 l1_4).bind fun t593 => (if t593 = true then (some true) else (some false))) else (some false))) else (some false))) else (some false))) else (some false))) = some r := h
 clear h
 replace H := Option.bind_eq_some_iff.mp H
 obtain ⟨t589, A30, H⟩ := H
 replace H : (if t589 = true then ((laws_eqInt64S.f k l0_1 l1_1).bind fun t590 => (if t590 = true then ((laws_eqInt64S.f k l0_2 l1_2).bind fun t591 => (if t591 = true then ((laws_eqJointS.f k l0_3 l1_3).bind fun t592 => (if t592 = true then ((laws_eqInt64SS.f k l0_4 l1_4).bind fun t593 => (if t593 = true then (some true) else (some false))) else (some false))) else (some false))) else (some false))) else (some false)) = some r := H
 have A3 := Aside0.mk A30
 clear A30
 by_cases c4 : t589 = true
 ·subst c4
  have H1 : ((laws_eqInt64S.f k l0_1 l1_1).bind fun t590 => (if t590 = true then ((laws_eqInt64S.f k l0_2 l1_2).bind fun t591 => (if t591 = true then ((laws_eqJointS.f k l0_3 l1_3).bind fun t592 => (if t592 = true then ((laws_eqInt64SS.f k l0_4 l1_4).bind fun t593 => (if t593 = true then (some true) else (some false))) else (some false))) else (some false))) else (some false))) = some r := by rw [if_pos rfl] at H; exact H
  clear H
  have H := H1
  clear H1
  replace H := Option.bind_eq_some_iff.mp H
  obtain ⟨t590, A50, H⟩ := H
  replace H : (if t590 = true then ((laws_eqInt64S.f k l0_2 l1_2).bind fun t591 => (if t591 = true then ((laws_eqJointS.f k l0_3 l1_3).bind fun t592 => (if t592 = true then ((laws_eqInt64SS.f k l0_4 l1_4).bind fun t593 => (if t593 = true then (some true) else (some false))) else (some false))) else (some false))) else (some false)) = some r := H
  have A5 := Aside0.mk A50
  clear A50
  by_cases c6 : t590 = true
  ·subst c6
   have H1 : ((laws_eqInt64S.f k l0_2 l1_2).bind fun t591 => (if t591 = true then ((laws_eqJointS.f k l0_3 l1_3).bind fun t592 => (if t592 = true then ((laws_eqInt64SS.f k l0_4 l1_4).bind fun t593 => (if t593 = true then (some true) else (some false))) else (some false))) else (some false))) = some r := by rw [if_pos rfl] at H; exact H
   clear H
   have H := H1
   clear H1
   replace H := Option.bind_eq_some_iff.mp H
   obtain ⟨t591, A70, H⟩ := H
   replace H : (if t591 = true then ((laws_eqJointS.f k l0_3 l1_3).bind fun t592 => (if t592 = true then ((laws_eqInt64SS.f k l0_4 l1_4).bind fun t593 => (if t593 = true then (some true) else (some false))) else (some false))) else (some false)) = some r := H
   have A7 := Aside0.mk A70
   clear A70
   by_cases c8 : t591 = true
   ·subst c8
    have H1 : ((laws_eqJointS.f k l0_3 l1_3).bind fun t592 => (if t592 = true then ((laws_eqInt64SS.f k l0_4 l1_4).bind fun t593 => (if t593 = true then (some true) else (some false))) else (some false))) = some r := by rw [if_pos rfl] at H; exact H
    clear H
    have H := H1
    clear H1
    replace H := Option.bind_eq_some_iff.mp H
    obtain ⟨t592, A90, H⟩ := H
    replace H : (if t592 = true then ((laws_eqInt64SS.f k l0_4 l1_4).bind fun t593 => (if t593 = true then (some true) else (some false))) else (some false)) = some r := H
    have A9 := Aside0.mk A90
    clear A90
    by_cases c10 : t592 = true
    ·subst c10
     have H1 : ((laws_eqInt64SS.f k l0_4 l1_4).bind fun t593 => (if t593 = true then (some true) else (some false))) = some r := by rw [if_pos rfl] at H; exact H
     clear H
     have H := H1
     clear H1
     replace H := Option.bind_eq_some_iff.mp H
     obtain ⟨t593, A110, H⟩ := H
     replace H : (if t593 = true then (some true) else (some false)) = some r := H
     have A11 := Aside0.mk A110
     clear A110
     by_cases c12 : t593 = true
     ·subst c12
      have H1 : (some true) = some r := by rw [if_pos rfl] at H; exact H
      clear H
      have H := H1
      clear H1
      obtain rfl := Option.some.inj H
      go_enter Tryd.func41, Tryd.ntmps41
      go_wp2_with (first | ((with_reducible refine gate_dst (N := 2) rfl ?_); refine boxS (N := 2) (cs := #[.slice A0_0 l0_0.length c0_0, .slice A0_1 l0_1.length c0_1, .slice A0_2 l0_2.length c0_2, .slice A0_3 l0_3.length c0_3, .slice A0_4 l0_4.length c0_4]) (t := 65) ?_; intro gb587 hg w13 hbox hb; have n0_ := Aside0.mk (below_step (bW) hb); have n1_ := Aside0.mk (hbox); have n2_ := geW (w := w) hg; have n3_ := geW (w := w) hg; clear HB; have HB := n0_; have BK587 := n1_; have GW587 := n2_; have GE587 := n3_; clear n0_ n1_ n2_ n3_; clear hb hbox hg) | ((with_reducible refine gate_dst (N := 3) rfl ?_); refine boxS (N := 3) (cs := #[.slice A1_0 l1_0.length c1_0, .slice A1_1 l1_1.length c1_1, .slice A1_2 l1_2.length c1_2, .slice A1_3 l1_3.length c1_3, .slice A1_4 l1_4.length c1_4]) (t := 65) ?_; intro gb588 hg w14 hbox hb; have n0_ := Aside0.mk (blkB BK587.out hb); have n1_ := Aside0.mk (below_step (bW) hb); have n2_ := Aside0.mk (hbox); have n3_ := geW (w := w) hg; have n4_ := geW (w := w) hg; have n5_ := Aside0.mk ((by rw [hg]; exact Nat.ne_of_lt (blk_lt (g := gb587) (o := .cells #[.slice A0_0 l0_0.length c0_0, .slice A0_1 l0_1.length c0_1, .slice A0_2 l0_2.length c0_2, .slice A0_3 l0_3.length c0_3, .slice A0_4 l0_4.length c0_4] 65 (0, 0)) (bP BK587.out)) : gb587 ≠ gb588)); have n6_ := Aside0.mk ((by rw [hg]; exact Nat.ne_of_gt (blk_lt (g := gb587) (o := .cells #[.slice A0_0 l0_0.length c0_0, .slice A0_1 l0_1.length c0_1, .slice A0_2 l0_2.length c0_2, .slice A0_3 l0_3.length c0_3, .slice A0_4 l0_4.length c0_4] 65 (0, 0)) (bP BK587.out)) : gb588 ≠ gb587)); clear BK587; clear HB; have BK587 := n0_; have HB := n1_; have BK588 := n2_; have GW588 := n3_; have GE588 := n4_; have NB587_588 := n5_; have NB588_587 := n6_; clear n0_ n1_ n2_ n3_ n4_ n5_ n6_; clear hb hbox hg; have hnb15 := NB587_588.out; have hnc15 := NB588_587.out; have hcz16_0 : w14.cell? ⟨gb587, 0, none⟩ = some (.slice A0_0 l0_0.length c0_0) := (blk_cell BK587.out 0).trans rfl; have hcz16_1 : w14.cell? ⟨gb587, 1, none⟩ = some (.slice A0_1 l0_1.length c0_1) := (blk_cell BK587.out 1).trans rfl; have hcz16_2 : w14.cell? ⟨gb587, 2, none⟩ = some (.slice A0_2 l0_2.length c0_2) := (blk_cell BK587.out 2).trans rfl; have hcz16_3 : w14.cell? ⟨gb587, 3, none⟩ = some (.slice A0_3 l0_3.length c0_3) := (blk_cell BK587.out 3).trans rfl; have hcz16_4 : w14.cell? ⟨gb587, 4, none⟩ = some (.slice A0_4 l0_4.length c0_4) := (blk_cell BK587.out 4).trans rfl; have hfz16_0 := blk_frozen BK587.out 0; have hfz16_1 := blk_frozen BK587.out 1; have hfz16_2 := blk_frozen BK587.out 2; have hfz16_3 := blk_frozen BK587.out 3; have hfz16_4 := blk_frozen BK587.out 4; have hcz17_0 : w14.cell? ⟨gb588, 0, none⟩ = some (.slice A1_0 l1_0.length c1_0) := (blk_cell BK588.out 0).trans rfl; have hcz17_1 : w14.cell? ⟨gb588, 1, none⟩ = some (.slice A1_1 l1_1.length c1_1) := (blk_cell BK588.out 1).trans rfl; have hcz17_2 : w14.cell? ⟨gb588, 2, none⟩ = some (.slice A1_2 l1_2.length c1_2) := (blk_cell BK588.out 2).trans rfl; have hcz17_3 : w14.cell? ⟨gb588, 3, none⟩ = some (.slice A1_3 l1_3.length c1_3) := (blk_cell BK588.out 3).trans rfl; have hcz17_4 : w14.cell? ⟨gb588, 4, none⟩ = some (.slice A1_4 l1_4.length c1_4) := (blk_cell BK588.out 4).trans rfl; have hfz17_0 := blk_frozen BK588.out 0; have hfz17_1 := blk_frozen BK588.out 1; have hfz17_2 := blk_frozen BK588.out 2; have hfz17_3 := blk_frozen BK588.out 3; have hfz17_4 := blk_frozen BK588.out 4) | ((with_reducible refine gate_callee (f := 32) rfl ?_); refine goesS (some 9) Tryd.func32 #[.slice A0_0 l0_0.length c0_0, .slice A1_0 l1_0.length c1_0] ?_; (with_reducible refine (laws_eqInt64S.calls k _ _ l0_0 _ _ l1_0 true _ ?side1 ?side2 ?side3 ?side4 A3.out).mono ?_); (case side1 => exact cP (Kd.C_below HR0_0.out HB.out)); (case side2 => exact HC0_0.out); (case side3 => exact cP (Kd.C_below HR1_0.out HB.out)); (case side4 => exact HC1_0.out); rintro e w' ⟨rfl, ⟨nd, rfl⟩⟩; refine ⟨_, rfl, ?_⟩) | ((with_reducible refine gate_callee (f := 32) rfl ?_); refine goesS (some 15) Tryd.func32 #[.slice A0_1 l0_1.length c0_1, .slice A1_1 l1_1.length c1_1] ?_; (with_reducible refine (laws_eqInt64S.calls k _ _ l0_1 _ _ l1_1 true _ ?side1 ?side2 ?side3 ?side4 A5.out).mono ?_); (case side1 => exact cP (Kd.C_below HR0_1.out (bW))); (case side2 => exact HC0_1.out); (case side3 => exact cP (Kd.C_below HR1_1.out (bW))); (case side4 => exact HC1_1.out); rintro e w' ⟨rfl, ⟨nd, rfl⟩⟩; refine ⟨_, rfl, ?_⟩) | ((with_reducible refine gate_callee (f := 32) rfl ?_); refine goesS (some 21) Tryd.func32 #[.slice A0_2 l0_2.length c0_2, .slice A1_2 l1_2.length c1_2] ?_; (with_reducible refine (laws_eqInt64S.calls k _ _ l0_2 _ _ l1_2 true _ ?side1 ?side2 ?side3 ?side4 A7.out).mono ?_); (case side1 => exact cP (Kd.C_below HR0_2.out (bW))); (case side2 => exact HC0_2.out); (case side3 => exact cP (Kd.C_below HR1_2.out (bW))); (case side4 => exact HC1_2.out); rintro e w' ⟨rfl, ⟨nd, rfl⟩⟩; refine ⟨_, rfl, ?_⟩) | ((with_reducible refine gate_callee (f := 85) rfl ?_); refine goesS (some 27) Tryd.func85 #[.slice A0_3 l0_3.length c0_3, .slice A1_3 l1_3.length c1_3] ?_; (with_reducible refine (laws_eqJointS.calls k _ _ l0_3 _ _ l1_3 true _ ?side1 ?side2 ?side3 ?side4 A9.out).mono ?_); (case side1 => exact cP (Kd.C_below HR0_3.out (bW))); (case side2 => exact HC0_3.out); (case side3 => exact cP (Kd.C_below HR1_3.out (bW))); (case side4 => exact HC1_3.out); rintro e w18 ⟨rfl, hb⟩; refine ⟨_, rfl, ?_⟩; have n0_ := Aside0.mk (blkB BK587.out hb); have n1_ := Aside0.mk (blkB BK588.out hb); have n2_ := Aside0.mk (below_step (bW) hb); clear BK587; clear BK588; clear HB; have BK587 := n0_; have BK588 := n1_; have HB := n2_; clear n0_ n1_ n2_; (try clear hb); (try clear hb2); (try clear hk); (try clear hi); have hcz19_0 : w18.cell? ⟨gb587, 0, none⟩ = some (.slice A0_0 l0_0.length c0_0) := (blk_cell BK587.out 0).trans rfl; have hcz19_1 : w18.cell? ⟨gb587, 1, none⟩ = some (.slice A0_1 l0_1.length c0_1) := (blk_cell BK587.out 1).trans rfl; have hcz19_2 : w18.cell? ⟨gb587, 2, none⟩ = some (.slice A0_2 l0_2.length c0_2) := (blk_cell BK587.out 2).trans rfl; have hcz19_3 : w18.cell? ⟨gb587, 3, none⟩ = some (.slice A0_3 l0_3.length c0_3) := (blk_cell BK587.out 3).trans rfl; have hcz19_4 : w18.cell? ⟨gb587, 4, none⟩ = some (.slice A0_4 l0_4.length c0_4) := (blk_cell BK587.out 4).trans rfl; have hfz19_0 := blk_frozen BK587.out 0; have hfz19_1 := blk_frozen BK587.out 1; have hfz19_2 := blk_frozen BK587.out 2; have hfz19_3 := blk_frozen BK587.out 3; have hfz19_4 := blk_frozen BK587.out 4; have hcz20_0 : w18.cell? ⟨gb588, 0, none⟩ = some (.slice A1_0 l1_0.length c1_0) := (blk_cell BK588.out 0).trans rfl; have hcz20_1 : w18.cell? ⟨gb588, 1, none⟩ = some (.slice A1_1 l1_1.length c1_1) := (blk_cell BK588.out 1).trans rfl; have hcz20_2 : w18.cell? ⟨gb588, 2, none⟩ = some (.slice A1_2 l1_2.length c1_2) := (blk_cell BK588.out 2).trans rfl; have hcz20_3 : w18.cell? ⟨gb588, 3, none⟩ = some (.slice A1_3 l1_3.length c1_3) := (blk_cell BK588.out 3).trans rfl; have hcz20_4 : w18.cell? ⟨gb588, 4, none⟩ = some (.slice A1_4 l1_4.length c1_4) := (blk_cell BK588.out 4).trans rfl; have hfz20_0 := blk_frozen BK588.out 0; have hfz20_1 := blk_frozen BK588.out 1; have hfz20_2 := blk_frozen BK588.out 2; have hfz20_3 := blk_frozen BK588.out 3; have hfz20_4 := blk_frozen BK588.out 4) | ((with_reducible refine gate_callee (f := 19) rfl ?_); refine goesS (some 33) Tryd.func19 #[.slice A0_4 l0_4.length c0_4, .slice A1_4 l1_4.length c1_4] ?_; (with_reducible refine (laws_eqInt64SS.calls k _ _ l0_4 _ _ l1_4 true _ ?side1 ?side2 ?side3 ?side4 A11.out).mono ?_); (case side1 => exact cP (Kd.C_below HR0_4.out HB.out)); (case side2 => exact HC0_4.out); (case side3 => exact cP (Kd.C_below HR1_4.out HB.out)); (case side4 => exact HC1_4.out); rintro e w' ⟨rfl, ⟨nd, rfl⟩⟩; refine ⟨_, rfl, ?_⟩))
      go_ret
      exact ⟨eW, bW⟩
     ·replace c12 := Bool.eq_false_iff.mpr c12
      subst c12
      have H1 : (some false) = some r := by rw [if_neg (show ¬ (false = true) by decide)] at H; exact H
      clear H
      have H := H1
      clear H1
      obtain rfl := Option.some.inj H
      go_enter Tryd.func41, Tryd.ntmps41
      go_wp2_with (first | ((with_reducible refine gate_dst (N := 2) rfl ?_); refine boxS (N := 2) (cs := #[.slice A0_0 l0_0.length c0_0, .slice A0_1 l0_1.length c0_1, .slice A0_2 l0_2.length c0_2, .slice A0_3 l0_3.length c0_3, .slice A0_4 l0_4.length c0_4]) (t := 65) ?_; intro gb587 hg w21 hbox hb; have n0_ := Aside0.mk (below_step (bW) hb); have n1_ := Aside0.mk (hbox); have n2_ := geW (w := w) hg; have n3_ := geW (w := w) hg; clear HB; have HB := n0_; have BK587 := n1_; have GW587 := n2_; have GE587 := n3_; clear n0_ n1_ n2_ n3_; clear hb hbox hg) | ((with_reducible refine gate_dst (N := 3) rfl ?_); refine boxS (N := 3) (cs := #[.slice A1_0 l1_0.length c1_0, .slice A1_1 l1_1.length c1_1, .slice A1_2 l1_2.length c1_2, .slice A1_3 l1_3.length c1_3, .slice A1_4 l1_4.length c1_4]) (t := 65) ?_; intro gb588 hg w22 hbox hb; have n0_ := Aside0.mk (blkB BK587.out hb); have n1_ := Aside0.mk (below_step (bW) hb); have n2_ := Aside0.mk (hbox); have n3_ := geW (w := w) hg; have n4_ := geW (w := w) hg; have n5_ := Aside0.mk ((by rw [hg]; exact Nat.ne_of_lt (blk_lt (g := gb587) (o := .cells #[.slice A0_0 l0_0.length c0_0, .slice A0_1 l0_1.length c0_1, .slice A0_2 l0_2.length c0_2, .slice A0_3 l0_3.length c0_3, .slice A0_4 l0_4.length c0_4] 65 (0, 0)) (bP BK587.out)) : gb587 ≠ gb588)); have n6_ := Aside0.mk ((by rw [hg]; exact Nat.ne_of_gt (blk_lt (g := gb587) (o := .cells #[.slice A0_0 l0_0.length c0_0, .slice A0_1 l0_1.length c0_1, .slice A0_2 l0_2.length c0_2, .slice A0_3 l0_3.length c0_3, .slice A0_4 l0_4.length c0_4] 65 (0, 0)) (bP BK587.out)) : gb588 ≠ gb587)); clear BK587; clear HB; have BK587 := n0_; have HB := n1_; have BK588 := n2_; have GW588 := n3_; have GE588 := n4_; have NB587_588 := n5_; have NB588_587 := n6_; clear n0_ n1_ n2_ n3_ n4_ n5_ n6_; clear hb hbox hg; have hnb23 := NB587_588.out; have hnc23 := NB588_587.out; have hcz24_0 : w22.cell? ⟨gb587, 0, none⟩ = some (.slice A0_0 l0_0.length c0_0) := (blk_cell BK587.out 0).trans rfl; have hcz24_1 : w22.cell? ⟨gb587, 1, none⟩ = some (.slice A0_1 l0_1.length c0_1) := (blk_cell BK587.out 1).trans rfl; have hcz24_2 : w22.cell? ⟨gb587, 2, none⟩ = some (.slice A0_2 l0_2.length c0_2) := (blk_cell BK587.out 2).trans rfl; have hcz24_3 : w22.cell? ⟨gb587, 3, none⟩ = some (.slice A0_3 l0_3.length c0_3) := (blk_cell BK587.out 3).trans rfl; have hcz24_4 : w22.cell? ⟨gb587, 4, none⟩ = some (.slice A0_4 l0_4.length c0_4) := (blk_cell BK587.out 4).trans rfl; have hfz24_0 := blk_frozen BK587.out 0; have hfz24_1 := blk_frozen BK587.out 1; have hfz24_2 := blk_frozen BK587.out 2; have hfz24_3 := blk_frozen BK587.out 3; have hfz24_4 := blk_frozen BK587.out 4; have hcz25_0 : w22.cell? ⟨gb588, 0, none⟩ = some (.slice A1_0 l1_0.length c1_0) := (blk_cell BK588.out 0).trans rfl; have hcz25_1 : w22.cell? ⟨gb588, 1, none⟩ = some (.slice A1_1 l1_1.length c1_1) := (blk_cell BK588.out 1).trans rfl; have hcz25_2 : w22.cell? ⟨gb588, 2, none⟩ = some (.slice A1_2 l1_2.length c1_2) := (blk_cell BK588.out 2).trans rfl; have hcz25_3 : w22.cell? ⟨gb588, 3, none⟩ = some (.slice A1_3 l1_3.length c1_3) := (blk_cell BK588.out 3).trans rfl; have hcz25_4 : w22.cell? ⟨gb588, 4, none⟩ = some (.slice A1_4 l1_4.length c1_4) := (blk_cell BK588.out 4).trans rfl; have hfz25_0 := blk_frozen BK588.out 0; have hfz25_1 := blk_frozen BK588.out 1; have hfz25_2 := blk_frozen BK588.out 2; have hfz25_3 := blk_frozen BK588.out 3; have hfz25_4 := blk_frozen BK588.out 4) | ((with_reducible refine gate_callee (f := 32) rfl ?_); refine goesS (some 9) Tryd.func32 #[.slice A0_0 l0_0.length c0_0, .slice A1_0 l1_0.length c1_0] ?_; (with_reducible refine (laws_eqInt64S.calls k _ _ l0_0 _ _ l1_0 true _ ?side1 ?side2 ?side3 ?side4 A3.out).mono ?_); (case side1 => exact cP (Kd.C_below HR0_0.out HB.out)); (case side2 => exact HC0_0.out); (case side3 => exact cP (Kd.C_below HR1_0.out HB.out)); (case side4 => exact HC1_0.out); rintro e w' ⟨rfl, ⟨nd, rfl⟩⟩; refine ⟨_, rfl, ?_⟩) | ((with_reducible refine gate_callee (f := 32) rfl ?_); refine goesS (some 15) Tryd.func32 #[.slice A0_1 l0_1.length c0_1, .slice A1_1 l1_1.length c1_1] ?_; (with_reducible refine (laws_eqInt64S.calls k _ _ l0_1 _ _ l1_1 true _ ?side1 ?side2 ?side3 ?side4 A5.out).mono ?_); (case side1 => exact cP (Kd.C_below HR0_1.out (bW))); (case side2 => exact HC0_1.out); (case side3 => exact cP (Kd.C_below HR1_1.out (bW))); (case side4 => exact HC1_1.out); rintro e w' ⟨rfl, ⟨nd, rfl⟩⟩; refine ⟨_, rfl, ?_⟩) | ((with_reducible refine gate_callee (f := 32) rfl ?_); refine goesS (some 21) Tryd.func32 #[.slice A0_2 l0_2.length c0_2, .slice A1_2 l1_2.length c1_2] ?_; (with_reducible refine (laws_eqInt64S.calls k _ _ l0_2 _ _ l1_2 true _ ?side1 ?side2 ?side3 ?side4 A7.out).mono ?_); (case side1 => exact cP (Kd.C_below HR0_2.out (bW))); (case side2 => exact HC0_2.out); (case side3 => exact cP (Kd.C_below HR1_2.out (bW))); (case side4 => exact HC1_2.out); rintro e w' ⟨rfl, ⟨nd, rfl⟩⟩; refine ⟨_, rfl, ?_⟩) | ((with_reducible refine gate_callee (f := 85) rfl ?_); refine goesS (some 27) Tryd.func85 #[.slice A0_3 l0_3.length c0_3, .slice A1_3 l1_3.length c1_3] ?_; (with_reducible refine (laws_eqJointS.calls k _ _ l0_3 _ _ l1_3 true _ ?side1 ?side2 ?side3 ?side4 A9.out).mono ?_); (case side1 => exact cP (Kd.C_below HR0_3.out (bW))); (case side2 => exact HC0_3.out); (case side3 => exact cP (Kd.C_below HR1_3.out (bW))); (case side4 => exact HC1_3.out); rintro e w26 ⟨rfl, hb⟩; refine ⟨_, rfl, ?_⟩; have n0_ := Aside0.mk (blkB BK587.out hb); have n1_ := Aside0.mk (blkB BK588.out hb); have n2_ := Aside0.mk (below_step (bW) hb); clear BK587; clear BK588; clear HB; have BK587 := n0_; have BK588 := n1_; have HB := n2_; clear n0_ n1_ n2_; (try clear hb); (try clear hb2); (try clear hk); (try clear hi); have hcz27_0 : w26.cell? ⟨gb587, 0, none⟩ = some (.slice A0_0 l0_0.length c0_0) := (blk_cell BK587.out 0).trans rfl; have hcz27_1 : w26.cell? ⟨gb587, 1, none⟩ = some (.slice A0_1 l0_1.length c0_1) := (blk_cell BK587.out 1).trans rfl; have hcz27_2 : w26.cell? ⟨gb587, 2, none⟩ = some (.slice A0_2 l0_2.length c0_2) := (blk_cell BK587.out 2).trans rfl; have hcz27_3 : w26.cell? ⟨gb587, 3, none⟩ = some (.slice A0_3 l0_3.length c0_3) := (blk_cell BK587.out 3).trans rfl; have hcz27_4 : w26.cell? ⟨gb587, 4, none⟩ = some (.slice A0_4 l0_4.length c0_4) := (blk_cell BK587.out 4).trans rfl; have hfz27_0 := blk_frozen BK587.out 0; have hfz27_1 := blk_frozen BK587.out 1; have hfz27_2 := blk_frozen BK587.out 2; have hfz27_3 := blk_frozen BK587.out 3; have hfz27_4 := blk_frozen BK587.out 4; have hcz28_0 : w26.cell? ⟨gb588, 0, none⟩ = some (.slice A1_0 l1_0.length c1_0) := (blk_cell BK588.out 0).trans rfl; have hcz28_1 : w26.cell? ⟨gb588, 1, none⟩ = some (.slice A1_1 l1_1.length c1_1) := (blk_cell BK588.out 1).trans rfl; have hcz28_2 : w26.cell? ⟨gb588, 2, none⟩ = some (.slice A1_2 l1_2.length c1_2) := (blk_cell BK588.out 2).trans rfl; have hcz28_3 : w26.cell? ⟨gb588, 3, none⟩ = some (.slice A1_3 l1_3.length c1_3) := (blk_cell BK588.out 3).trans rfl; have hcz28_4 : w26.cell? ⟨gb588, 4, none⟩ = some (.slice A1_4 l1_4.length c1_4) := (blk_cell BK588.out 4).trans rfl; have hfz28_0 := blk_frozen BK588.out 0; have hfz28_1 := blk_frozen BK588.out 1; have hfz28_2 := blk_frozen BK588.out 2; have hfz28_3 := blk_frozen BK588.out 3; have hfz28_4 := blk_frozen BK588.out 4) | ((with_reducible refine gate_callee (f := 19) rfl ?_); refine goesS (some 33) Tryd.func19 #[.slice A0_4 l0_4.length c0_4, .slice A1_4 l1_4.length c1_4] ?_; (with_reducible refine (laws_eqInt64SS.calls k _ _ l0_4 _ _ l1_4 false _ ?side1 ?side2 ?side3 ?side4 A11.out).mono ?_); (case side1 => exact cP (Kd.C_below HR0_4.out HB.out)); (case side2 => exact HC0_4.out); (case side3 => exact cP (Kd.C_below HR1_4.out HB.out)); (case side4 => exact HC1_4.out); rintro e w' ⟨rfl, ⟨nd, rfl⟩⟩; refine ⟨_, rfl, ?_⟩))
      go_ret
      exact ⟨eW, bW⟩
    ·replace c10 := Bool.eq_false_iff.mpr c10
     subst c10
     have H1 : (some false) = some r := by rw [if_neg (show ¬ (false = true) by decide)] at H; exact H
     clear H
     have H := H1
     clear H1
     obtain rfl := Option.some.inj H
     go_enter Tryd.func41, Tryd.ntmps41
     go_wp2_with (first | ((with_reducible refine gate_dst (N := 2) rfl ?_); refine boxS (N := 2) (cs := #[.slice A0_0 l0_0.length c0_0, .slice A0_1 l0_1.length c0_1, .slice A0_2 l0_2.length c0_2, .slice A0_3 l0_3.length c0_3, .slice A0_4 l0_4.length c0_4]) (t := 65) ?_; intro gb587 hg w29 hbox hb; have n0_ := Aside0.mk (below_step (bW) hb); have n1_ := Aside0.mk (hbox); have n2_ := geW (w := w) hg; have n3_ := geW (w := w) hg; clear HB; have HB := n0_; have BK587 := n1_; have GW587 := n2_; have GE587 := n3_; clear n0_ n1_ n2_ n3_; clear hb hbox hg) | ((with_reducible refine gate_dst (N := 3) rfl ?_); refine boxS (N := 3) (cs := #[.slice A1_0 l1_0.length c1_0, .slice A1_1 l1_1.length c1_1, .slice A1_2 l1_2.length c1_2, .slice A1_3 l1_3.length c1_3, .slice A1_4 l1_4.length c1_4]) (t := 65) ?_; intro gb588 hg w30 hbox hb; have n0_ := Aside0.mk (blkB BK587.out hb); have n1_ := Aside0.mk (below_step (bW) hb); have n2_ := Aside0.mk (hbox); have n3_ := geW (w := w) hg; have n4_ := geW (w := w) hg; have n5_ := Aside0.mk ((by rw [hg]; exact Nat.ne_of_lt (blk_lt (g := gb587) (o := .cells #[.slice A0_0 l0_0.length c0_0, .slice A0_1 l0_1.length c0_1, .slice A0_2 l0_2.length c0_2, .slice A0_3 l0_3.length c0_3, .slice A0_4 l0_4.length c0_4] 65 (0, 0)) (bP BK587.out)) : gb587 ≠ gb588)); have n6_ := Aside0.mk ((by rw [hg]; exact Nat.ne_of_gt (blk_lt (g := gb587) (o := .cells #[.slice A0_0 l0_0.length c0_0, .slice A0_1 l0_1.length c0_1, .slice A0_2 l0_2.length c0_2, .slice A0_3 l0_3.length c0_3, .slice A0_4 l0_4.length c0_4] 65 (0, 0)) (bP BK587.out)) : gb588 ≠ gb587)); clear BK587; clear HB; have BK587 := n0_; have HB := n1_; have BK588 := n2_; have GW588 := n3_; have GE588 := n4_; have NB587_588 := n5_; have NB588_587 := n6_; clear n0_ n1_ n2_ n3_ n4_ n5_ n6_; clear hb hbox hg; have hnb31 := NB587_588.out; have hnc31 := NB588_587.out; have hcz32_0 : w30.cell? ⟨gb587, 0, none⟩ = some (.slice A0_0 l0_0.length c0_0) := (blk_cell BK587.out 0).trans rfl; have hcz32_1 : w30.cell? ⟨gb587, 1, none⟩ = some (.slice A0_1 l0_1.length c0_1) := (blk_cell BK587.out 1).trans rfl; have hcz32_2 : w30.cell? ⟨gb587, 2, none⟩ = some (.slice A0_2 l0_2.length c0_2) := (blk_cell BK587.out 2).trans rfl; have hcz32_3 : w30.cell? ⟨gb587, 3, none⟩ = some (.slice A0_3 l0_3.length c0_3) := (blk_cell BK587.out 3).trans rfl; have hcz32_4 : w30.cell? ⟨gb587, 4, none⟩ = some (.slice A0_4 l0_4.length c0_4) := (blk_cell BK587.out 4).trans rfl; have hfz32_0 := blk_frozen BK587.out 0; have hfz32_1 := blk_frozen BK587.out 1; have hfz32_2 := blk_frozen BK587.out 2; have hfz32_3 := blk_frozen BK587.out 3; have hfz32_4 := blk_frozen BK587.out 4; have hcz33_0 : w30.cell? ⟨gb588, 0, none⟩ = some (.slice A1_0 l1_0.length c1_0) := (blk_cell BK588.out 0).trans rfl; have hcz33_1 : w30.cell? ⟨gb588, 1, none⟩ = some (.slice A1_1 l1_1.length c1_1) := (blk_cell BK588.out 1).trans rfl; have hcz33_2 : w30.cell? ⟨gb588, 2, none⟩ = some (.slice A1_2 l1_2.length c1_2) := (blk_cell BK588.out 2).trans rfl; have hcz33_3 : w30.cell? ⟨gb588, 3, none⟩ = some (.slice A1_3 l1_3.length c1_3) := (blk_cell BK588.out 3).trans rfl; have hcz33_4 : w30.cell? ⟨gb588, 4, none⟩ = some (.slice A1_4 l1_4.length c1_4) := (blk_cell BK588.out 4).trans rfl; have hfz33_0 := blk_frozen BK588.out 0; have hfz33_1 := blk_frozen BK588.out 1; have hfz33_2 := blk_frozen BK588.out 2; have hfz33_3 := blk_frozen BK588.out 3; have hfz33_4 := blk_frozen BK588.out 4) | ((with_reducible refine gate_callee (f := 32) rfl ?_); refine goesS (some 9) Tryd.func32 #[.slice A0_0 l0_0.length c0_0, .slice A1_0 l1_0.length c1_0] ?_; (with_reducible refine (laws_eqInt64S.calls k _ _ l0_0 _ _ l1_0 true _ ?side1 ?side2 ?side3 ?side4 A3.out).mono ?_); (case side1 => exact cP (Kd.C_below HR0_0.out HB.out)); (case side2 => exact HC0_0.out); (case side3 => exact cP (Kd.C_below HR1_0.out HB.out)); (case side4 => exact HC1_0.out); rintro e w' ⟨rfl, ⟨nd, rfl⟩⟩; refine ⟨_, rfl, ?_⟩) | ((with_reducible refine gate_callee (f := 32) rfl ?_); refine goesS (some 15) Tryd.func32 #[.slice A0_1 l0_1.length c0_1, .slice A1_1 l1_1.length c1_1] ?_; (with_reducible refine (laws_eqInt64S.calls k _ _ l0_1 _ _ l1_1 true _ ?side1 ?side2 ?side3 ?side4 A5.out).mono ?_); (case side1 => exact cP (Kd.C_below HR0_1.out (bW))); (case side2 => exact HC0_1.out); (case side3 => exact cP (Kd.C_below HR1_1.out (bW))); (case side4 => exact HC1_1.out); rintro e w' ⟨rfl, ⟨nd, rfl⟩⟩; refine ⟨_, rfl, ?_⟩) | ((with_reducible refine gate_callee (f := 32) rfl ?_); refine goesS (some 21) Tryd.func32 #[.slice A0_2 l0_2.length c0_2, .slice A1_2 l1_2.length c1_2] ?_; (with_reducible refine (laws_eqInt64S.calls k _ _ l0_2 _ _ l1_2 true _ ?side1 ?side2 ?side3 ?side4 A7.out).mono ?_); (case side1 => exact cP (Kd.C_below HR0_2.out (bW))); (case side2 => exact HC0_2.out); (case side3 => exact cP (Kd.C_below HR1_2.out (bW))); (case side4 => exact HC1_2.out); rintro e w' ⟨rfl, ⟨nd, rfl⟩⟩; refine ⟨_, rfl, ?_⟩) | ((with_reducible refine gate_callee (f := 85) rfl ?_); refine goesS (some 27) Tryd.func85 #[.slice A0_3 l0_3.length c0_3, .slice A1_3 l1_3.length c1_3] ?_; (with_reducible refine (laws_eqJointS.calls k _ _ l0_3 _ _ l1_3 false _ ?side1 ?side2 ?side3 ?side4 A9.out).mono ?_); (case side1 => exact cP (Kd.C_below HR0_3.out (bW))); (case side2 => exact HC0_3.out); (case side3 => exact cP (Kd.C_below HR1_3.out (bW))); (case side4 => exact HC1_3.out); rintro e w34 ⟨rfl, hb⟩; refine ⟨_, rfl, ?_⟩; have n0_ := Aside0.mk (blkB BK587.out hb); have n1_ := Aside0.mk (blkB BK588.out hb); have n2_ := Aside0.mk (below_step (bW) hb); clear BK587; clear BK588; clear HB; have BK587 := n0_; have BK588 := n1_; have HB := n2_; clear n0_ n1_ n2_; (try clear hb); (try clear hb2); (try clear hk); (try clear hi)))
     go_ret
     exact ⟨eW, bW⟩
   ·replace c8 := Bool.eq_false_iff.mpr c8
    subst c8
    have H1 : (some false) = some r := by rw [if_neg (show ¬ (false = true) by decide)] at H; exact H
    clear H
    have H := H1
    clear H1
    obtain rfl := Option.some.inj H
    go_enter Tryd.func41, Tryd.ntmps41
    go_wp2_with (first | ((with_reducible refine gate_dst (N := 2) rfl ?_); refine boxS (N := 2) (cs := #[.slice A0_0 l0_0.length c0_0, .slice A0_1 l0_1.length c0_1, .slice A0_2 l0_2.length c0_2, .slice A0_3 l0_3.length c0_3, .slice A0_4 l0_4.length c0_4]) (t := 65) ?_; intro gb587 hg w35 hbox hb; have n0_ := Aside0.mk (below_step (bW) hb); have n1_ := Aside0.mk (hbox); have n2_ := geW (w := w) hg; have n3_ := geW (w := w) hg; clear HB; have HB := n0_; have BK587 := n1_; have GW587 := n2_; have GE587 := n3_; clear n0_ n1_ n2_ n3_; clear hb hbox hg) | ((with_reducible refine gate_dst (N := 3) rfl ?_); refine boxS (N := 3) (cs := #[.slice A1_0 l1_0.length c1_0, .slice A1_1 l1_1.length c1_1, .slice A1_2 l1_2.length c1_2, .slice A1_3 l1_3.length c1_3, .slice A1_4 l1_4.length c1_4]) (t := 65) ?_; intro gb588 hg w36 hbox hb; have n0_ := Aside0.mk (blkB BK587.out hb); have n1_ := Aside0.mk (below_step (bW) hb); have n2_ := Aside0.mk (hbox); have n3_ := geW (w := w) hg; have n4_ := geW (w := w) hg; have n5_ := Aside0.mk ((by rw [hg]; exact Nat.ne_of_lt (blk_lt (g := gb587) (o := .cells #[.slice A0_0 l0_0.length c0_0, .slice A0_1 l0_1.length c0_1, .slice A0_2 l0_2.length c0_2, .slice A0_3 l0_3.length c0_3, .slice A0_4 l0_4.length c0_4] 65 (0, 0)) (bP BK587.out)) : gb587 ≠ gb588)); have n6_ := Aside0.mk ((by rw [hg]; exact Nat.ne_of_gt (blk_lt (g := gb587) (o := .cells #[.slice A0_0 l0_0.length c0_0, .slice A0_1 l0_1.length c0_1, .slice A0_2 l0_2.length c0_2, .slice A0_3 l0_3.length c0_3, .slice A0_4 l0_4.length c0_4] 65 (0, 0)) (bP BK587.out)) : gb588 ≠ gb587)); clear BK587; clear HB; have BK587 := n0_; have HB := n1_; have BK588 := n2_; have GW588 := n3_; have GE588 := n4_; have NB587_588 := n5_; have NB588_587 := n6_; clear n0_ n1_ n2_ n3_ n4_ n5_ n6_; clear hb hbox hg; have hnb37 := NB587_588.out; have hnc37 := NB588_587.out; have hcz38_0 : w36.cell? ⟨gb587, 0, none⟩ = some (.slice A0_0 l0_0.length c0_0) := (blk_cell BK587.out 0).trans rfl; have hcz38_1 : w36.cell? ⟨gb587, 1, none⟩ = some (.slice A0_1 l0_1.length c0_1) := (blk_cell BK587.out 1).trans rfl; have hcz38_2 : w36.cell? ⟨gb587, 2, none⟩ = some (.slice A0_2 l0_2.length c0_2) := (blk_cell BK587.out 2).trans rfl; have hcz38_3 : w36.cell? ⟨gb587, 3, none⟩ = some (.slice A0_3 l0_3.length c0_3) := (blk_cell BK587.out 3).trans rfl; have hcz38_4 : w36.cell? ⟨gb587, 4, none⟩ = some (.slice A0_4 l0_4.length c0_4) := (blk_cell BK587.out 4).trans rfl; have hfz38_0 := blk_frozen BK587.out 0; have hfz38_1 := blk_frozen BK587.out 1; have hfz38_2 := blk_frozen BK587.out 2; have hfz38_3 := blk_frozen BK587.out 3; have hfz38_4 := blk_frozen BK587.out 4; have hcz39_0 : w36.cell? ⟨gb588, 0, none⟩ = some (.slice A1_0 l1_0.length c1_0) := (blk_cell BK588.out 0).trans rfl; have hcz39_1 : w36.cell? ⟨gb588, 1, none⟩ = some (.slice A1_1 l1_1.length c1_1) := (blk_cell BK588.out 1).trans rfl; have hcz39_2 : w36.cell? ⟨gb588, 2, none⟩ = some (.slice A1_2 l1_2.length c1_2) := (blk_cell BK588.out 2).trans rfl; have hcz39_3 : w36.cell? ⟨gb588, 3, none⟩ = some (.slice A1_3 l1_3.length c1_3) := (blk_cell BK588.out 3).trans rfl; have hcz39_4 : w36.cell? ⟨gb588, 4, none⟩ = some (.slice A1_4 l1_4.length c1_4) := (blk_cell BK588.out 4).trans rfl; have hfz39_0 := blk_frozen BK588.out 0; have hfz39_1 := blk_frozen BK588.out 1; have hfz39_2 := blk_frozen BK588.out 2; have hfz39_3 := blk_frozen BK588.out 3; have hfz39_4 := blk_frozen BK588.out 4) | ((with_reducible refine gate_callee (f := 32) rfl ?_); refine goesS (some 9) Tryd.func32 #[.slice A0_0 l0_0.length c0_0, .slice A1_0 l1_0.length c1_0] ?_; (with_reducible refine (laws_eqInt64S.calls k _ _ l0_0 _ _ l1_0 true _ ?side1 ?side2 ?side3 ?side4 A3.out).mono ?_); (case side1 => exact cP (Kd.C_below HR0_0.out HB.out)); (case side2 => exact HC0_0.out); (case side3 => exact cP (Kd.C_below HR1_0.out HB.out)); (case side4 => exact HC1_0.out); rintro e w' ⟨rfl, ⟨nd, rfl⟩⟩; refine ⟨_, rfl, ?_⟩) | ((with_reducible refine gate_callee (f := 32) rfl ?_); refine goesS (some 15) Tryd.func32 #[.slice A0_1 l0_1.length c0_1, .slice A1_1 l1_1.length c1_1] ?_; (with_reducible refine (laws_eqInt64S.calls k _ _ l0_1 _ _ l1_1 true _ ?side1 ?side2 ?side3 ?side4 A5.out).mono ?_); (case side1 => exact cP (Kd.C_below HR0_1.out (bW))); (case side2 => exact HC0_1.out); (case side3 => exact cP (Kd.C_below HR1_1.out (bW))); (case side4 => exact HC1_1.out); rintro e w' ⟨rfl, ⟨nd, rfl⟩⟩; refine ⟨_, rfl, ?_⟩) | ((with_reducible refine gate_callee (f := 32) rfl ?_); refine goesS (some 21) Tryd.func32 #[.slice A0_2 l0_2.length c0_2, .slice A1_2 l1_2.length c1_2] ?_; (with_reducible refine (laws_eqInt64S.calls k _ _ l0_2 _ _ l1_2 false _ ?side1 ?side2 ?side3 ?side4 A7.out).mono ?_); (case side1 => exact cP (Kd.C_below HR0_2.out (bW))); (case side2 => exact HC0_2.out); (case side3 => exact cP (Kd.C_below HR1_2.out (bW))); (case side4 => exact HC1_2.out); rintro e w' ⟨rfl, ⟨nd, rfl⟩⟩; refine ⟨_, rfl, ?_⟩))
    go_ret
    exact ⟨eW, bW⟩
  ·replace c6 := Bool.eq_false_iff.mpr c6
   subst c6
   have H1 : (some false) = some r := by rw [if_neg (show ¬ (false = true) by decide)] at H; exact H
   clear H
   have H := H1
   clear H1
   obtain rfl := Option.some.inj H
   go_enter Tryd.func41, Tryd.ntmps41
   go_wp2_with (first | ((with_reducible refine gate_dst (N := 2) rfl ?_); refine boxS (N := 2) (cs := #[.slice A0_0 l0_0.length c0_0, .slice A0_1 l0_1.length c0_1, .slice A0_2 l0_2.length c0_2, .slice A0_3 l0_3.length c0_3, .slice A0_4 l0_4.length c0_4]) (t := 65) ?_; intro gb587 hg w40 hbox hb; have n0_ := Aside0.mk (below_step (bW) hb); have n1_ := Aside0.mk (hbox); have n2_ := geW (w := w) hg; have n3_ := geW (w := w) hg; clear HB; have HB := n0_; have BK587 := n1_; have GW587 := n2_; have GE587 := n3_; clear n0_ n1_ n2_ n3_; clear hb hbox hg) | ((with_reducible refine gate_dst (N := 3) rfl ?_); refine boxS (N := 3) (cs := #[.slice A1_0 l1_0.length c1_0, .slice A1_1 l1_1.length c1_1, .slice A1_2 l1_2.length c1_2, .slice A1_3 l1_3.length c1_3, .slice A1_4 l1_4.length c1_4]) (t := 65) ?_; intro gb588 hg w41 hbox hb; have n0_ := Aside0.mk (blkB BK587.out hb); have n1_ := Aside0.mk (below_step (bW) hb); have n2_ := Aside0.mk (hbox); have n3_ := geW (w := w) hg; have n4_ := geW (w := w) hg; have n5_ := Aside0.mk ((by rw [hg]; exact Nat.ne_of_lt (blk_lt (g := gb587) (o := .cells #[.slice A0_0 l0_0.length c0_0, .slice A0_1 l0_1.length c0_1, .slice A0_2 l0_2.length c0_2, .slice A0_3 l0_3.length c0_3, .slice A0_4 l0_4.length c0_4] 65 (0, 0)) (bP BK587.out)) : gb587 ≠ gb588)); have n6_ := Aside0.mk ((by rw [hg]; exact Nat.ne_of_gt (blk_lt (g := gb587) (o := .cells #[.slice A0_0 l0_0.length c0_0, .slice A0_1 l0_1.length c0_1, .slice A0_2 l0_2.length c0_2, .slice A0_3 l0_3.length c0_3, .slice A0_4 l0_4.length c0_4] 65 (0, 0)) (bP BK587.out)) : gb588 ≠ gb587)); clear BK587; clear HB; have BK587 := n0_; have HB := n1_; have BK588 := n2_; have GW588 := n3_; have GE588 := n4_; have NB587_588 := n5_; have NB588_587 := n6_; clear n0_ n1_ n2_ n3_ n4_ n5_ n6_; clear hb hbox hg; have hnb42 := NB587_588.out; have hnc42 := NB588_587.out; have hcz43_0 : w41.cell? ⟨gb587, 0, none⟩ = some (.slice A0_0 l0_0.length c0_0) := (blk_cell BK587.out 0).trans rfl; have hcz43_1 : w41.cell? ⟨gb587, 1, none⟩ = some (.slice A0_1 l0_1.length c0_1) := (blk_cell BK587.out 1).trans rfl; have hcz43_2 : w41.cell? ⟨gb587, 2, none⟩ = some (.slice A0_2 l0_2.length c0_2) := (blk_cell BK587.out 2).trans rfl; have hcz43_3 : w41.cell? ⟨gb587, 3, none⟩ = some (.slice A0_3 l0_3.length c0_3) := (blk_cell BK587.out 3).trans rfl; have hcz43_4 : w41.cell? ⟨gb587, 4, none⟩ = some (.slice A0_4 l0_4.length c0_4) := (blk_cell BK587.out 4).trans rfl; have hfz43_0 := blk_frozen BK587.out 0; have hfz43_1 := blk_frozen BK587.out 1; have hfz43_2 := blk_frozen BK587.out 2; have hfz43_3 := blk_frozen BK587.out 3; have hfz43_4 := blk_frozen BK587.out 4; have hcz44_0 : w41.cell? ⟨gb588, 0, none⟩ = some (.slice A1_0 l1_0.length c1_0) := (blk_cell BK588.out 0).trans rfl; have hcz44_1 : w41.cell? ⟨gb588, 1, none⟩ = some (.slice A1_1 l1_1.length c1_1) := (blk_cell BK588.out 1).trans rfl; have hcz44_2 : w41.cell? ⟨gb588, 2, none⟩ = some (.slice A1_2 l1_2.length c1_2) := (blk_cell BK588.out 2).trans rfl; have hcz44_3 : w41.cell? ⟨gb588, 3, none⟩ = some (.slice A1_3 l1_3.length c1_3) := (blk_cell BK588.out 3).trans rfl; have hcz44_4 : w41.cell? ⟨gb588, 4, none⟩ = some (.slice A1_4 l1_4.length c1_4) := (blk_cell BK588.out 4).trans rfl; have hfz44_0 := blk_frozen BK588.out 0; have hfz44_1 := blk_frozen BK588.out 1; have hfz44_2 := blk_frozen BK588.out 2; have hfz44_3 := blk_frozen BK588.out 3; have hfz44_4 := blk_frozen BK588.out 4) | ((with_reducible refine gate_callee (f := 32) rfl ?_); refine goesS (some 9) Tryd.func32 #[.slice A0_0 l0_0.length c0_0, .slice A1_0 l1_0.length c1_0] ?_; (with_reducible refine (laws_eqInt64S.calls k _ _ l0_0 _ _ l1_0 true _ ?side1 ?side2 ?side3 ?side4 A3.out).mono ?_); (case side1 => exact cP (Kd.C_below HR0_0.out HB.out)); (case side2 => exact HC0_0.out); (case side3 => exact cP (Kd.C_below HR1_0.out HB.out)); (case side4 => exact HC1_0.out); rintro e w' ⟨rfl, ⟨nd, rfl⟩⟩; refine ⟨_, rfl, ?_⟩) | ((with_reducible refine gate_callee (f := 32) rfl ?_); refine goesS (some 15) Tryd.func32 #[.slice A0_1 l0_1.length c0_1, .slice A1_1 l1_1.length c1_1] ?_; (with_reducible refine (laws_eqInt64S.calls k _ _ l0_1 _ _ l1_1 false _ ?side1 ?side2 ?side3 ?side4 A5.out).mono ?_); (case side1 => exact cP (Kd.C_below HR0_1.out (bW))); (case side2 => exact HC0_1.out); (case side3 => exact cP (Kd.C_below HR1_1.out (bW))); (case side4 => exact HC1_1.out); rintro e w' ⟨rfl, ⟨nd, rfl⟩⟩; refine ⟨_, rfl, ?_⟩))
   go_ret
   exact ⟨eW, bW⟩
 ·replace c4 := Bool.eq_false_iff.mpr c4
  subst c4
  have H1 : (some false) = some r := by rw [if_neg (show ¬ (false = true) by decide)] at H; exact H
  clear H
  have H := H1
  clear H1
  obtain rfl := Option.some.inj H
  go_enter Tryd.func41, Tryd.ntmps41
  go_wp2_with (first | ((with_reducible refine gate_dst (N := 2) rfl ?_); refine boxS (N := 2) (cs := #[.slice A0_0 l0_0.length c0_0, .slice A0_1 l0_1.length c0_1, .slice A0_2 l0_2.length c0_2, .slice A0_3 l0_3.length c0_3, .slice A0_4 l0_4.length c0_4]) (t := 65) ?_; intro gb587 hg w45 hbox hb; have n0_ := Aside0.mk (below_step (bW) hb); have n1_ := Aside0.mk (hbox); have n2_ := geW (w := w) hg; have n3_ := geW (w := w) hg; clear HB; have HB := n0_; have BK587 := n1_; have GW587 := n2_; have GE587 := n3_; clear n0_ n1_ n2_ n3_; clear hb hbox hg) | ((with_reducible refine gate_dst (N := 3) rfl ?_); refine boxS (N := 3) (cs := #[.slice A1_0 l1_0.length c1_0, .slice A1_1 l1_1.length c1_1, .slice A1_2 l1_2.length c1_2, .slice A1_3 l1_3.length c1_3, .slice A1_4 l1_4.length c1_4]) (t := 65) ?_; intro gb588 hg w46 hbox hb; have n0_ := Aside0.mk (blkB BK587.out hb); have n1_ := Aside0.mk (below_step (bW) hb); have n2_ := Aside0.mk (hbox); have n3_ := geW (w := w) hg; have n4_ := geW (w := w) hg; have n5_ := Aside0.mk ((by rw [hg]; exact Nat.ne_of_lt (blk_lt (g := gb587) (o := .cells #[.slice A0_0 l0_0.length c0_0, .slice A0_1 l0_1.length c0_1, .slice A0_2 l0_2.length c0_2, .slice A0_3 l0_3.length c0_3, .slice A0_4 l0_4.length c0_4] 65 (0, 0)) (bP BK587.out)) : gb587 ≠ gb588)); have n6_ := Aside0.mk ((by rw [hg]; exact Nat.ne_of_gt (blk_lt (g := gb587) (o := .cells #[.slice A0_0 l0_0.length c0_0, .slice A0_1 l0_1.length c0_1, .slice A0_2 l0_2.length c0_2, .slice A0_3 l0_3.length c0_3, .slice A0_4 l0_4.length c0_4] 65 (0, 0)) (bP BK587.out)) : gb588 ≠ gb587)); clear BK587; clear HB; have BK587 := n0_; have HB := n1_; have BK588 := n2_; have GW588 := n3_; have GE588 := n4_; have NB587_588 := n5_; have NB588_587 := n6_; clear n0_ n1_ n2_ n3_ n4_ n5_ n6_; clear hb hbox hg; have hnb47 := NB587_588.out; have hnc47 := NB588_587.out; have hcz48_0 : w46.cell? ⟨gb587, 0, none⟩ = some (.slice A0_0 l0_0.length c0_0) := (blk_cell BK587.out 0).trans rfl; have hcz48_1 : w46.cell? ⟨gb587, 1, none⟩ = some (.slice A0_1 l0_1.length c0_1) := (blk_cell BK587.out 1).trans rfl; have hcz48_2 : w46.cell? ⟨gb587, 2, none⟩ = some (.slice A0_2 l0_2.length c0_2) := (blk_cell BK587.out 2).trans rfl; have hcz48_3 : w46.cell? ⟨gb587, 3, none⟩ = some (.slice A0_3 l0_3.length c0_3) := (blk_cell BK587.out 3).trans rfl; have hcz48_4 : w46.cell? ⟨gb587, 4, none⟩ = some (.slice A0_4 l0_4.length c0_4) := (blk_cell BK587.out 4).trans rfl; have hfz48_0 := blk_frozen BK587.out 0; have hfz48_1 := blk_frozen BK587.out 1; have hfz48_2 := blk_frozen BK587.out 2; have hfz48_3 := blk_frozen BK587.out 3; have hfz48_4 := blk_frozen BK587.out 4; have hcz49_0 : w46.cell? ⟨gb588, 0, none⟩ = some (.slice A1_0 l1_0.length c1_0) := (blk_cell BK588.out 0).trans rfl; have hcz49_1 : w46.cell? ⟨gb588, 1, none⟩ = some (.slice A1_1 l1_1.length c1_1) := (blk_cell BK588.out 1).trans rfl; have hcz49_2 : w46.cell? ⟨gb588, 2, none⟩ = some (.slice A1_2 l1_2.length c1_2) := (blk_cell BK588.out 2).trans rfl; have hcz49_3 : w46.cell? ⟨gb588, 3, none⟩ = some (.slice A1_3 l1_3.length c1_3) := (blk_cell BK588.out 3).trans rfl; have hcz49_4 : w46.cell? ⟨gb588, 4, none⟩ = some (.slice A1_4 l1_4.length c1_4) := (blk_cell BK588.out 4).trans rfl; have hfz49_0 := blk_frozen BK588.out 0; have hfz49_1 := blk_frozen BK588.out 1; have hfz49_2 := blk_frozen BK588.out 2; have hfz49_3 := blk_frozen BK588.out 3; have hfz49_4 := blk_frozen BK588.out 4) | ((with_reducible refine gate_callee (f := 32) rfl ?_); refine goesS (some 9) Tryd.func32 #[.slice A0_0 l0_0.length c0_0, .slice A1_0 l1_0.length c1_0] ?_; (with_reducible refine (laws_eqInt64S.calls k _ _ l0_0 _ _ l1_0 false _ ?side1 ?side2 ?side3 ?side4 A3.out).mono ?_); (case side1 => exact cP (Kd.C_below HR0_0.out HB.out)); (case side2 => exact HC0_0.out); (case side3 => exact cP (Kd.C_below HR1_0.out HB.out)); (case side4 => exact HC1_0.out); rintro e w' ⟨rfl, ⟨nd, rfl⟩⟩; refine ⟨_, rfl, ?_⟩))
  go_ret
  exact ⟨eW, bW⟩

end Go.Proofs.YthbaocejgjpfoaaDoor.P
end M0
