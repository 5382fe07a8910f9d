import Derived.ArgAppend
import Derived.Below
import Derived.BigQuiet
import Derived.Deep.AppendLies
import Derived.Deep.CutBlock
import Derived.Deep.DeepCutAuto
import Derived.Deep.Draws
import Derived.Deep.LoopGhost
import Derived.Deep.OwnRows
import Derived.Deep.QuietTactic
import Derived.Deep.RegionHeld3
import Derived.KernelRfl
import Derived.Laws.BitsLemmas
import Derived.Laws.BytesArg
import Derived.Laws.IdiomCopy
import Derived.Laws.MakeOwn
import Derived.Laws.OwnMore
import Derived.Laws.Rows
import Derived.Laws.Slices
import Derived.Laws.StructEq
import Derived.Lib.AppendStr
import Derived.Lib.ConvBytes
import Derived.Lib.SliceRun
import Derived.Maps.AppendAt
import Derived.OrdersHeld
import Derived.OwnWalk
import Derived.RowKit
import Derived.RowKit3
import Derived.Shelf.Abstract
import Derived.Shelf.Spec.TrailingZeros
import Derived.Tactics
import Derived.Test.YthbaocejgjpfoaaDoorProg
import Derived.WalkKit
import Derived.WideLaws
import Derived.Test.YthbaocejgjpfoaaDoorCFnExactExpressionText2
import Derived.Test.YthbaocejgjpfoaaDoorCFnExactExpressionText4
import Derived.Test.YthbaocejgjpfoaaDoorCFnExactExpressionText6
section M0
namespace Go.Proofs.YthbaocejgjpfoaaDoor.P
open Go.RowKit Go.Proofs.YthbaocejgjpfoaaDoor.Sh Go.Proofs.YthbaocejgjpfoaaDoorW.PrintWords Go.Proofs.YthbaocejgjpfoaaDoorW.PrintLast Go.Proofs.YthbaocejgjpfoaaDoorW.PrintMore
attribute [local go_sem] max2_int min2_int max_two min_two max_three min_three max_four min_four   -- for this text's walks alone
set_option linter.unusedVariables false
set_option linter.unusedSimpArgs false

/-! ### spec_IsExpression: function 61 -/
mutual
def spec_IsExpression.j0 : Nat → List (S84) → Bool → Int → List Int → Option (Bool)
 | 0, _, _, _, _ => none
 | k + 1, x1, x19, x241000, x241001 => if x19 = true then (some false) else (spec_IsExpression.l0 k x1 0 x241000 x241001)
def spec_IsExpression.l0 : Nat → List (S84) → Int → Int → List Int → Option (Bool)
 | 0, _, _, _, _ => none
 | k + 1, x1, x5, x241000, x241001 => if x5 < (x1.length : Int) then (if 0 ≤ x5 then (if ((rd_T84 x1 x5).f0) = 2 then (spec_IsExpression.j2 k x1 x5 (wrap64 (x241000 - 1)) x241000 x241001) else (spec_IsExpression.j2 k x1 x5 0 x241000 x241001)) else (none)) else ((spec_l13End.f k x1 0).bind fun t242 => (some (t242 == (x1.length : Int))))
def spec_IsExpression.j2 : Nat → List (S84) → Int → Int → Int → List Int → Option (Bool)
 | 0, _, _, _, _, _ => none
 | k + 1, x1, x5, x6, x241000, x241001 => if 0 ≤ x5 then (if x5 < (x1.length : Int) then ((spec_l01In.f ((rd_T84 x1 x5).f0) 0 5).bind fun t245 => (if t245 = true then ((spec_l01In.f ((rd_T84 x1 x5).f1) 0 x6).bind fun t247 => (if t247 = true then (spec_IsExpression.l0 k x1 (wrap64 (x5 + 1)) x241000 x241001) else (some false))) else (some false))) else (none)) else (none)
end
def spec_IsExpression.f (k : Nat) (a0_0 : Int) (l0_1 : List Int) (l1 : List (S84)) : Option (Bool) := (spec_l02Is.f k a0_0 l0_1).bind fun t241 => (if t241 = true then (if (l1.length : Int) < 1 then (spec_IsExpression.j0 k l1 true a0_0 l0_1) else (spec_IsExpression.j0 k l1 (decide ((l1.length : Int) > 24)) a0_0 l0_1)) else (spec_IsExpression.j0 k l1 true a0_0 l0_1))
theorem spec_IsExpression.mono_l : ∀ k, (∀ y0 y1 y2 y3, LeO (spec_IsExpression.j0 k y0 y1 y2 y3) (spec_IsExpression.j0 (k + 1) y0 y1 y2 y3)) ∧ (∀ y0 y1 y2 y3, LeO (spec_IsExpression.l0 k y0 y1 y2 y3) (spec_IsExpression.l0 (k + 1) y0 y1 y2 y3)) ∧ (∀ y0 y1 y2 y3 y4, LeO (spec_IsExpression.j2 k y0 y1 y2 y3 y4) (spec_IsExpression.j2 (k + 1) y0 y1 y2 y3 y4))
 | 0 => ⟨fun _ _ _ _ r h => by simp [spec_IsExpression.j0] at h, fun _ _ _ _ r h => by simp [spec_IsExpression.l0] at h, fun _ _ _ _ _ r h => by simp [spec_IsExpression.j2] at h⟩
 | k + 1 => by
  obtain ⟨ih0, ih1, ih2⟩ := spec_IsExpression.mono_l k
  refine ⟨?_, ?_, ?_⟩
  ·intro y0 y1 y2 y3
   unfold spec_IsExpression.j0
   repeat' first
   | (with_reducible exact ih0 _ _ _ _)
   | (with_reducible exact ih1 _ _ _ _)
   | (with_reducible exact ih2 _ _ _ _ _)
   | (with_reducible exact spec_l02Is.mono _ _ _)
   | (with_reducible exact spec_l13End.mono _ _ _)
   | (with_reducible exact LeO.refl _)
   | (with_reducible exact LeO.none _)
   | (with_reducible refine LeO.ite ?_ ?_)
   | (with_reducible refine LeO.bind ?_ (fun _ => ?_))
   | exact ih0 _ _ _ _
   | exact ih1 _ _ _ _
   | exact ih2 _ _ _ _ _
   | exact spec_l02Is.mono _ _ _
   | exact spec_l13End.mono _ _ _
   | exact LeO.none _
   | refine LeO.ite ?_ ?_
   | refine LeO.bind ?_ (fun _ => ?_)
  ·intro y0 y1 y2 y3
   unfold spec_IsExpression.l0
   repeat' first
   | (with_reducible exact ih0 _ _ _ _)
   | (with_reducible exact ih1 _ _ _ _)
   | (with_reducible exact ih2 _ _ _ _ _)
   | (with_reducible exact spec_l02Is.mono _ _ _)
   | (with_reducible exact spec_l13End.mono _ _ _)
   | (with_reducible exact LeO.refl _)
   | (with_reducible exact LeO.none _)
   | (with_reducible refine LeO.ite ?_ ?_)
   | (with_reducible refine LeO.bind ?_ (fun _ => ?_))
   | exact ih0 _ _ _ _
   | exact ih1 _ _ _ _
   | exact ih2 _ _ _ _ _
   | exact spec_l02Is.mono _ _ _
   | exact spec_l13End.mono _ _ _
   | exact LeO.none _
   | refine LeO.ite ?_ ?_
   | refine LeO.bind ?_ (fun _ => ?_)
  ·intro y0 y1 y2 y3 y4
   unfold spec_IsExpression.j2
   repeat' first
   | (with_reducible exact ih0 _ _ _ _)
   | (with_reducible exact ih1 _ _ _ _)
   | (with_reducible exact ih2 _ _ _ _ _)
   | (with_reducible exact spec_l02Is.mono _ _ _)
   | (with_reducible exact spec_l13End.mono _ _ _)
   | (with_reducible exact LeO.refl _)
   | (with_reducible exact LeO.none _)
   | (with_reducible refine LeO.ite ?_ ?_)
   | (with_reducible refine LeO.bind ?_ (fun _ => ?_))
   | exact ih0 _ _ _ _
   | exact ih1 _ _ _ _
   | exact ih2 _ _ _ _ _
   | exact spec_l02Is.mono _ _ _
   | exact spec_l13End.mono _ _ _
   | exact LeO.none _
   | refine LeO.ite ?_ ?_
   | refine LeO.bind ?_ (fun _ => ?_)
theorem spec_IsExpression.mono : ∀ a0 a1 a2 k, LeO (spec_IsExpression.f k a0 a1 a2) (spec_IsExpression.f (k + 1) a0 a1 a2) := by
 intro a0 a1 a2 k
 obtain ⟨ih0, ih1, ih2⟩ := spec_IsExpression.mono_l k
 unfold spec_IsExpression.f
 repeat' first
   | (with_reducible exact ih0 _ _ _ _)
   | (with_reducible exact ih1 _ _ _ _)
   | (with_reducible exact ih2 _ _ _ _ _)
   | (with_reducible exact spec_l02Is.mono _ _ _)
   | (with_reducible exact spec_l13End.mono _ _ _)
   | (with_reducible exact LeO.refl _)
   | (with_reducible exact LeO.none _)
   | (with_reducible refine LeO.ite ?_ ?_)
   | (with_reducible refine LeO.bind ?_ (fun _ => ?_))
   | exact ih0 _ _ _ _
   | exact ih1 _ _ _ _
   | exact ih2 _ _ _ _ _
   | exact spec_l02Is.mono _ _ _
   | exact spec_l13End.mono _ _ _
   | exact LeO.none _
   | refine LeO.ite ?_ ?_
   | refine LeO.bind ?_ (fun _ => ?_)
set_option maxHeartbeats 8000000 in
set_option maxRecDepth 100000 in
theorem spec_IsExpression.calls (k : Nat) (a0_0 : Int) (A0_1 : Option Addr) (c0_1 : Nat) (l0_1 : List Int) (A1 : Option Addr) (c1 : Nat) (l1 : List (S84)) (r : Bool) (w : World) (hr0_1 : Kd.C (Kd.int .i64) w A0_1 l0_1.length l0_1) (hc0_1 : l0_1.length ≤ c0_1) (hr1 : Kd.C k84 w A1 l1.length l1) (hc1 : l1.length ≤ c1) (h : spec_IsExpression.f k a0_0 l0_1 l1 = some r) :
  Calls Tryd.prog 61 #[.agg #[.int .i64 a0_0, .slice A0_1 l0_1.length c0_1], .slice A1 l1.length c1] w fun e w' => e = .returned (.bool r) ∧ Below w.heap.size w w' := by
 have hu29 := Tryd.underlying29
 have HR0_1 := Aside0.mk hr0_1
 have HC0_1 := Aside0.mk hc0_1
 clear hr0_1 hc0_1
 have HR1 := Aside0.mk hr1
 have HC1 := Aside0.mk hc1
 clear hr1 hc1
 have HB := Aside0.mk (Below.refl w.heap.size w)
 have H : ((spec_l02Is.f k a0_0 l0_1).bind fun t241 => (if t241 = true then (if (l1.length : Int) < 1 then (spec_IsExpression.j0 k l1 true a0_0 l0_1) else (spec_IsExpression.j0 k l1 (decide ((l1.length : Int) > 24)) a0_0 l0_1)) else (spec_IsExpression.j0 k l1 true a0_0 l0_1))) = some r := h
 clear h
 have HC3 := Aside0.mk H
 clear H
 go_enter Tryd.func61, Tryd.ntmps61
 go_upto_region 1 with (first | ((with_reducible refine gate_dst (N := 2) rfl ?_); (try (refine gate_guard (by rfl) ?_; dsimp only)); refine boxS (N := 2) (cs := #[.int .i64 a0_0, .slice A0_1 l0_1.length c0_1]) (t := 29) ?_; intro gb240 hg w4 hbox hb; have n0_ := Aside0.mk (below_step (bW) hb); have n1_ := Aside0.mk (hbox); have n2_ := geW (w := w) hg; have n3_ := geW (w := w) hg; clear HB; have HB := n0_; have BK240 := n1_; have GW240 := n2_; have GE240 := n3_; clear n0_ n1_ n2_ n3_; clear hb hbox hg))
 (try simp only [Act.put, List.setIfInBounds_toArray, List.set_cons_zero, List.set_cons_succ])
 go_cut [19] (fun v19 wc => ∃ (kq : Nat) (x19_2 : Bool), v19 = .bool x19_2 ∧ Aside0 (spec_IsExpression.j0 kq l1 x19_2 a0_0 l0_1 = some r) ∧ Aside0 (kq ≤ k) ∧ Aside0 (wc.heap[gb240]? = some (.cells #[.int .i64 a0_0, (.slice A0_1 l0_1.length c0_1)] 29 (0, 0))) ∧ Aside0 (Below w.heap.size w wc))
 case first =>
  have H := HC3.out
  clear HC3
  replace H := Option.bind_eq_some_iff.mp H
  obtain ⟨t241, A50, H⟩ := H
  replace H : (if t241 = true then (if (l1.length : Int) < 1 then (spec_IsExpression.j0 k l1 true a0_0 l0_1) else (spec_IsExpression.j0 k l1 (decide ((l1.length : Int) > 24)) a0_0 l0_1)) else (spec_IsExpression.j0 k l1 true a0_0 l0_1)) = some r := H
  have A5 := Aside0.mk A50
  clear A50
  by_cases c6 : t241 = true
  ·subst c6
   have H1 : (if (l1.length : Int) < 1 then (spec_IsExpression.j0 k l1 true a0_0 l0_1) else (spec_IsExpression.j0 k l1 (decide ((l1.length : Int) > 24)) a0_0 l0_1)) = some r := by rw [if_pos rfl] at H; exact H
   clear H
   have H := H1
   clear H1
   by_cases c7 : (l1.length : Int) < 1
   ·rw [if_pos c7] at H
    have c7b0 : decide ((l1.length : Int) < 1) = true := decide_eq_true c7
    have c7b1 : decide (l1.length < 1) = true := decide_eq_true (by omega)
    clear c7
    (first | rw [c7b0] | (simp only [i64_w, i32_w]; rw [c7b0]) | skip)
    have H' := Aside0.mk H
    clear H
    have hcz8_0 : w4.cell? ⟨gb240, 0, none⟩ = some (.int .i64 a0_0) := (blk_cell BK240.out 0).trans rfl
    have hcz8_1 : w4.cell? ⟨gb240, 1, none⟩ = some (.slice A0_1 l0_1.length c0_1) := (blk_cell BK240.out 1).trans rfl
    have hfz8_0 := blk_frozen BK240.out 0
    have hfz8_1 := blk_frozen BK240.out 1
    go_wp2_with (first | ((with_reducible refine gate_callee (f := 56) rfl ?_); refine goesS (some 8) Tryd.func56 #[.agg #[.int .i64 a0_0, .slice A0_1 l0_1.length c0_1]] ?_; (with_reducible refine (spec_l02Is.calls k a0_0 _ _ l0_1 true _ ?side1 ?side2 A5.out).mono ?_); (case side1 => exact cP (Kd.C_below HR0_1.out HB.out)); (case side2 => exact HC0_1.out); rintro e w9 ⟨rfl, hb⟩; refine ⟨_, rfl, ?_⟩; have n0_ := Aside0.mk (blkB BK240.out hb); have n1_ := Aside0.mk (below_step (bW) hb); clear BK240; clear HB; have BK240 := n0_; have HB := n1_; clear n0_ n1_; (try clear hb); (try clear hb2); (try clear hk); (try clear hi)))
    go_meet
    case rel => exact ⟨_, (true), (eW), H', ⟨by first | omega | exact Nat.le_refl _⟩, ⟨(bP BK240.out)⟩, ⟨bW⟩⟩
   ·rw [if_neg c7] at H
    have c7b0 : decide ((l1.length : Int) < 1) = false := decide_eq_false c7
    have c7b1 : decide (l1.length < 1) = false := decide_eq_false (by omega)
    clear c7
    (first | rw [c7b0] | (simp only [i64_w, i32_w]; rw [c7b0]) | skip)
    have H' := Aside0.mk H
    clear H
    have hcz10_0 : w4.cell? ⟨gb240, 0, none⟩ = some (.int .i64 a0_0) := (blk_cell BK240.out 0).trans rfl
    have hcz10_1 : w4.cell? ⟨gb240, 1, none⟩ = some (.slice A0_1 l0_1.length c0_1) := (blk_cell BK240.out 1).trans rfl
    have hfz10_0 := blk_frozen BK240.out 0
    have hfz10_1 := blk_frozen BK240.out 1
    go_wp2_with (first | ((with_reducible refine gate_callee (f := 56) rfl ?_); refine goesS (some 8) Tryd.func56 #[.agg #[.int .i64 a0_0, .slice A0_1 l0_1.length c0_1]] ?_; (with_reducible refine (spec_l02Is.calls k a0_0 _ _ l0_1 true _ ?side1 ?side2 A5.out).mono ?_); (case side1 => exact cP (Kd.C_below HR0_1.out HB.out)); (case side2 => exact HC0_1.out); rintro e w11 ⟨rfl, hb⟩; refine ⟨_, rfl, ?_⟩; have n0_ := Aside0.mk (blkB BK240.out hb); have n1_ := Aside0.mk (below_step (bW) hb); clear BK240; clear HB; have BK240 := n0_; have HB := n1_; clear n0_ n1_; (try clear hb); (try clear hb2); (try clear hk); (try clear hi)))
    go_meet
    case rel => exact ⟨_, (decide ((l1.length : Int) > 24)), (eW), H', ⟨by first | omega | exact Nat.le_refl _⟩, ⟨(bP BK240.out)⟩, ⟨bW⟩⟩
  ·replace c6 := Bool.eq_false_iff.mpr c6
   subst c6
   have H1 : (spec_IsExpression.j0 k l1 true a0_0 l0_1) = some r := by rw [if_neg (show ¬ (false = true) by decide)] at H; exact H
   clear H
   have H := H1
   clear H1
   have H' := Aside0.mk H
   clear H
   have hcz12_0 : w4.cell? ⟨gb240, 0, none⟩ = some (.int .i64 a0_0) := (blk_cell BK240.out 0).trans rfl
   have hcz12_1 : w4.cell? ⟨gb240, 1, none⟩ = some (.slice A0_1 l0_1.length c0_1) := (blk_cell BK240.out 1).trans rfl
   have hfz12_0 := blk_frozen BK240.out 0
   have hfz12_1 := blk_frozen BK240.out 1
   go_wp2_with (first | ((with_reducible refine gate_callee (f := 56) rfl ?_); refine goesS (some 8) Tryd.func56 #[.agg #[.int .i64 a0_0, .slice A0_1 l0_1.length c0_1]] ?_; (with_reducible refine (spec_l02Is.calls k a0_0 _ _ l0_1 false _ ?side1 ?side2 A5.out).mono ?_); (case side1 => exact cP (Kd.C_below HR0_1.out HB.out)); (case side2 => exact HC0_1.out); rintro e w13 ⟨rfl, hb⟩; refine ⟨_, rfl, ?_⟩; have n0_ := Aside0.mk (blkB BK240.out hb); have n1_ := Aside0.mk (below_step (bW) hb); clear BK240; clear HB; have BK240 := n0_; have HB := n1_; clear n0_ n1_; (try clear hb); (try clear hb2); (try clear hk); (try clear hi)))
   go_meet
   case rel => exact ⟨_, (true), (eW), H', ⟨by first | omega | exact Nat.le_refl _⟩, ⟨(bP BK240.out)⟩, ⟨bW⟩⟩
 case rest =>
  clear HC3
  try clear c1
  try clear p2
  try clear c5
  try clear c6
  try clear c7
  try clear c7b0
  try clear c7b1
  try clear hcz10_0
  try clear hcz10_1
  try clear hcz12_0
  try clear hcz12_1
  try clear hcz8_0
  try clear hcz8_1
  try clear hfz10_0
  try clear hfz10_1
  try clear hfz12_0
  try clear hfz12_1
  try clear hfz8_0
  try clear hfz8_1
  obtain ⟨kq, x19_2, rfl, HA, HJ2, BK240, HB⟩ := hcut
  cases kq with
  | zero => exact absurd HA.out (by simp [spec_IsExpression.j0])
  | succ kj2 =>
   have H := HA.out
   clear HA
   simp only [spec_IsExpression.j0] at H
   by_cases c14 : x19_2 = true
   ·subst c14
    have H1 : (some false) = some r := by rw [if_pos rfl] at H; exact H
    clear H
    have H := H1
    clear H1
    obtain rfl := Option.some.inj H
    go_wp2
    go_ret
    exact ⟨eW, bW⟩
   ·replace c14 := Bool.eq_false_iff.mpr c14
    subst c14
    have H1 : (spec_IsExpression.l0 kj2 l1 0 a0_0 l0_1) = some r := by rw [if_neg (show ¬ (false = true) by decide)] at H; exact H
    clear H
    have H := H1
    clear H1
    have H' := Aside0.mk H
    clear H
    go_wp2
    go_loopg [5] kj2 (fun kq v5 w' => ∃ (x5_2 : Int), v5 = .int .i64 x5_2 ∧ Aside0 (spec_IsExpression.l0 kq l1 x5_2 a0_0 l0_1 = some r) ∧ Aside0 (kq ≤ kj2) ∧ Aside0 (w'.heap[gb240]? = some (.cells #[.int .i64 a0_0, (.slice A0_1 l0_1.length c0_1)] 29 (0, 0))) ∧ Aside0 (Below w.heap.size w w'))
    case atStart => exact ⟨(0), (eW), H', ⟨Nat.le_refl _⟩, ⟨(bP BK240.out)⟩, ⟨bW⟩⟩
    case round =>
     clear H'
     try clear c1
     try clear p2
     try clear c5
     try clear c6
     try clear c7
     try clear c7b0
     try clear c7b1
     try clear c14
     try clear hcz10_0
     try clear hcz10_1
     try clear hcz12_0
     try clear hcz12_1
     try clear hcz8_0
     try clear hcz8_1
     try clear hfz10_0
     try clear hfz10_1
     try clear hfz12_0
     try clear hfz12_1
     try clear hfz8_0
     try clear hfz8_1
     try clear p2
     obtain ⟨x5_2, rfl, HA, HK2, BK240, HB⟩ := hrel
     cases gk with
     | zero => exact absurd HA.out (by simp [spec_IsExpression.l0])
     | succ k2 =>
      have H := HA.out
      clear HA
      simp only [spec_IsExpression.l0] at H
      by_cases c15 : x5_2 < (l1.length : Int)
      ·rw [if_pos c15] at H
       have c15b0 : decide (x5_2 < (l1.length : Int)) = true := decide_eq_true c15
       clear c15
       by_cases c16 : 0 ≤ x5_2
       ·rw [if_pos c16] at H
        have c16b0 : decide (0 ≤ x5_2) = true := decide_eq_true c16
        clear c16
        have HC17 := Aside0.mk H
        clear H
        have p243 : 0 ≤ (x5_2 : Int) := ofD
        have q243 : x5_2 < (l1.length : Int) := ofD
        obtain ⟨ad243, e243, hx243_0, hx243_1⟩ := at_T84 HR1.out x5_2 p243 q243
        cases e243
        replace hx243_0 := (HB.out.cell (World.block_lt_of_cell? w _ hx243_0)).trans hx243_0
        replace hx243_1 := (HB.out.cell (World.block_lt_of_cell? w _ hx243_1)).trans hx243_1
        replace p243 := eq_true p243
        replace q243 := eq_true q243
        go_upto_if 31 with (fail)
        go_cut [6] (fun v6 wc => ∃ (kq : Nat) (x6_16 : Int), v6 = .int .i64 x6_16 ∧ Aside0 (spec_IsExpression.j2 kq l1 x5_2 x6_16 a0_0 l0_1 = some r) ∧ Aside0 (kq ≤ k2) ∧ Aside0 (wc.heap[gb240]? = some (.cells #[.int .i64 a0_0, (.slice A0_1 l0_1.length c0_1)] 29 (0, 0))) ∧ Aside0 (Below w.heap.size w wc))
        case first =>
         have H := HC17.out
         clear HC17
         by_cases c18 : ((rd_T84 l1 x5_2).f0) = 2
         ·rw [if_pos c18] at H
          have c18b0 : (((rd_T84 l1 x5_2).f0) == 2) = true := beq_iff_eq.mpr c18
          have c18b1 : (((rd_T84 l1 x5_2).f0) != 2) = false := bne_eq_false_iff_eq.mpr c18
          clear c18
          (first | rw [c18b0] | (simp only [i64_w, i32_w]; rw [c18b0]) | skip)
          have H' := Aside0.mk H
          clear H
          have hcz19_0 : wr.cell? ⟨gb240, 0, none⟩ = some (.int .i64 a0_0) := (blk_cell BK240.out 0).trans rfl
          have hcz19_1 : wr.cell? ⟨gb240, 1, none⟩ = some (.slice A0_1 l0_1.length c0_1) := (blk_cell BK240.out 1).trans rfl
          have hfz19_0 := blk_frozen BK240.out 0
          have hfz19_1 := blk_frozen BK240.out 1
          go_wp2
          go_meet
          case rel => exact ⟨_, (wrap64 (a0_0 - 1)), (eW), H', ⟨by have := HJ2.out; have := HK2.out; first | omega | exact Nat.le_refl _⟩, ⟨(bP BK240.out)⟩, ⟨bW⟩⟩
         ·rw [if_neg c18] at H
          have c18b0 : (((rd_T84 l1 x5_2).f0) == 2) = false := beq_eq_false_iff_ne.mpr c18
          have c18b1 : (((rd_T84 l1 x5_2).f0) != 2) = true := bne_iff_ne.mpr c18
          (first | rw [c18b0] | (simp only [i64_w, i32_w]; rw [c18b0]) | skip)
          have H' := Aside0.mk H
          clear H
          go_wp2
          go_meet
          case rel => exact ⟨_, (0), (eW), H', ⟨by have := HJ2.out; have := HK2.out; first | omega | exact Nat.le_refl _⟩, ⟨(bP BK240.out)⟩, ⟨bW⟩⟩
        case rest =>
         clear HC17
         try clear c1
         try clear p2
         try clear q2
         try clear hx2
         try clear c5
         try clear c6
         try clear p6
         try clear c7
         try clear c7b0
         try clear c7b1
         try clear c14
         try clear c15
         try clear c15b0
         try clear c16
         try clear c16b0
         try clear c18
         try clear c18b0
         try clear c18b1
         try clear hcz10_0
         try clear hcz10_1
         try clear hcz12_0
         try clear hcz12_1
         try clear hcz19_0
         try clear hcz19_1
         try clear hcz8_0
         try clear hcz8_1
         try clear hfz10_0
         try clear hfz10_1
         try clear hfz12_0
         try clear hfz12_1
         try clear hfz19_0
         try clear hfz19_1
         try clear hfz8_0
         try clear hfz8_1
         try clear hx243_0
         try clear hx243_1
         try clear p2
         try clear p243
         try clear q243
         obtain ⟨kq, x6_16, rfl, HA, HJ16, BK240, HB⟩ := hcut
         cases kq with
         | zero => exact absurd HA.out (by simp [spec_IsExpression.j2])
         | succ kj16 =>
          have H := HA.out
          clear HA
          simp only [spec_IsExpression.j2] at H
          by_cases c20 : 0 ≤ x5_2
          ·rw [if_pos c20] at H
           have c20b0 : decide (0 ≤ x5_2) = true := decide_eq_true c20
           clear c20
           by_cases c21 : x5_2 < (l1.length : Int)
           ·rw [if_pos c21] at H
            have c21b0 : decide (x5_2 < (l1.length : Int)) = true := decide_eq_true c21
            clear c21
            replace H := Option.bind_eq_some_iff.mp H
            obtain ⟨t245, A220, H⟩ := H
            replace H : (if t245 = true then ((spec_l01In.f ((rd_T84 l1 x5_2).f1) 0 x6_16).bind fun t247 => (if t247 = true then (spec_IsExpression.l0 kj16 l1 (wrap64 (x5_2 + 1)) a0_0 l0_1) else (some false))) else (some false)) = some r := H
            have A22 := Aside0.mk A220
            clear A220
            by_cases c23 : t245 = true
            ·subst c23
             have H1 : ((spec_l01In.f ((rd_T84 l1 x5_2).f1) 0 x6_16).bind fun t247 => (if t247 = true then (spec_IsExpression.l0 kj16 l1 (wrap64 (x5_2 + 1)) a0_0 l0_1) else (some false))) = some r := by rw [if_pos rfl] at H; exact H
             clear H
             have H := H1
             clear H1
             replace H := Option.bind_eq_some_iff.mp H
             obtain ⟨t247, A240, H⟩ := H
             replace H : (if t247 = true then (spec_IsExpression.l0 kj16 l1 (wrap64 (x5_2 + 1)) a0_0 l0_1) else (some false)) = some r := H
             have A24 := Aside0.mk A240
             clear A240
             by_cases c25 : t247 = true
             ·subst c25
              have H1 : (spec_IsExpression.l0 kj16 l1 (wrap64 (x5_2 + 1)) a0_0 l0_1) = some r := by rw [if_pos rfl] at H; exact H
              clear H
              have H := H1
              clear H1
              have H' := Aside0.mk H
              clear H
              have p244 : 0 ≤ (x5_2 : Int) := ofD
              have q244 : x5_2 < (l1.length : Int) := ofD
              obtain ⟨ad244, e244, hx244_0, hx244_1⟩ := at_T84 HR1.out x5_2 p244 q244
              obtain rfl : ad243 = ad244 := (by injection e244)
              replace hx244_0 := (HB.out.cell (World.block_lt_of_cell? w _ hx244_0)).trans hx244_0
              replace hx244_1 := (HB.out.cell (World.block_lt_of_cell? w _ hx244_1)).trans hx244_1
              replace p244 := eq_true p244
              replace q244 := eq_true q244
              go_wp2_with (first | ((with_reducible refine gate_callee (f := 74) rfl ?_); refine goesS (some 40) Tryd.func74 #[.int .i64 ((rd_T84 l1 x5_2).f0), .int .i64 0, .int .i64 5] ?_; (with_reducible refine (spec_l01In.calls ((rd_T84 l1 x5_2).f0) 0 5 true _ A22.out).mono ?_); rintro e w' ⟨rfl, ⟨nd, rfl⟩⟩; refine ⟨_, rfl, ?_⟩; have p246 : 0 ≤ (x5_2 : Int) := ofD; have q246 : x5_2 < (l1.length : Int) := ofD; obtain ⟨ad246, e246, hx246_0, hx246_1⟩ := at_T84 HR1.out x5_2 p246 q246; obtain rfl : ad243 = ad246 := (by injection e246); replace hx246_0 := (HB.out.cell (World.block_lt_of_cell? w _ hx246_0)).trans hx246_0; replace hx246_1 := (HB.out.cell (World.block_lt_of_cell? w _ hx246_1)).trans hx246_1; replace p246 := eq_true p246; replace q246 := eq_true q246) | (go_at_call 74; (with_reducible refine (spec_l01In.calls ((rd_T84 l1 x5_2).f1) 0 x6_16 true _ A24.out).mono ?_); rintro e w' ⟨rfl, ⟨nd, rfl⟩⟩))
              go_roundg kj16
              case measure => have := HJ2.out; have := HK2.out; have := HJ16.out; omega
              case rel => exact ⟨(wrap64 (x5_2 + 1)), (eW), H', ⟨by have := HJ2.out; have := HK2.out; have := HJ16.out; omega⟩, ⟨(bP BK240.out)⟩, ⟨bW⟩⟩
             ·replace c25 := Bool.eq_false_iff.mpr c25
              subst c25
              have H1 : (some false) = some r := by rw [if_neg (show ¬ (false = true) by decide)] at H; exact H
              clear H
              have H := H1
              clear H1
              obtain rfl := Option.some.inj H
              have p244 : 0 ≤ (x5_2 : Int) := ofD
              have q244 : x5_2 < (l1.length : Int) := ofD
              obtain ⟨ad244, e244, hx244_0, hx244_1⟩ := at_T84 HR1.out x5_2 p244 q244
              obtain rfl : ad243 = ad244 := (by injection e244)
              replace hx244_0 := (HB.out.cell (World.block_lt_of_cell? w _ hx244_0)).trans hx244_0
              replace hx244_1 := (HB.out.cell (World.block_lt_of_cell? w _ hx244_1)).trans hx244_1
              replace p244 := eq_true p244
              replace q244 := eq_true q244
              go_wp2_with (first | ((with_reducible refine gate_callee (f := 74) rfl ?_); refine goesS (some 40) Tryd.func74 #[.int .i64 ((rd_T84 l1 x5_2).f0), .int .i64 0, .int .i64 5] ?_; (with_reducible refine (spec_l01In.calls ((rd_T84 l1 x5_2).f0) 0 5 true _ A22.out).mono ?_); rintro e w' ⟨rfl, ⟨nd, rfl⟩⟩; refine ⟨_, rfl, ?_⟩; have p246 : 0 ≤ (x5_2 : Int) := ofD; have q246 : x5_2 < (l1.length : Int) := ofD; obtain ⟨ad246, e246, hx246_0, hx246_1⟩ := at_T84 HR1.out x5_2 p246 q246; obtain rfl : ad243 = ad246 := (by injection e246); replace hx246_0 := (HB.out.cell (World.block_lt_of_cell? w _ hx246_0)).trans hx246_0; replace hx246_1 := (HB.out.cell (World.block_lt_of_cell? w _ hx246_1)).trans hx246_1; replace p246 := eq_true p246; replace q246 := eq_true q246) | (go_at_call 74; (with_reducible refine (spec_l01In.calls ((rd_T84 l1 x5_2).f1) 0 x6_16 false _ A24.out).mono ?_); rintro e w' ⟨rfl, ⟨nd, rfl⟩⟩))
              go_ret
              exact ⟨eW, bW⟩
            ·replace c23 := Bool.eq_false_iff.mpr c23
             subst c23
             have H1 : (some false) = some r := by rw [if_neg (show ¬ (false = true) by decide)] at H; exact H
             clear H
             have H := H1
             clear H1
             obtain rfl := Option.some.inj H
             have p244 : 0 ≤ (x5_2 : Int) := ofD
             have q244 : x5_2 < (l1.length : Int) := ofD
             obtain ⟨ad244, e244, hx244_0, hx244_1⟩ := at_T84 HR1.out x5_2 p244 q244
             obtain rfl : ad243 = ad244 := (by injection e244)
             replace hx244_0 := (HB.out.cell (World.block_lt_of_cell? w _ hx244_0)).trans hx244_0
             replace hx244_1 := (HB.out.cell (World.block_lt_of_cell? w _ hx244_1)).trans hx244_1
             replace p244 := eq_true p244
             replace q244 := eq_true q244
             go_wp2_with (first | ((with_reducible refine gate_callee (f := 74) rfl ?_); refine goesS (some 40) Tryd.func74 #[.int .i64 ((rd_T84 l1 x5_2).f0), .int .i64 0, .int .i64 5] ?_; (with_reducible refine (spec_l01In.calls ((rd_T84 l1 x5_2).f0) 0 5 false _ A22.out).mono ?_); rintro e w' ⟨rfl, ⟨nd, rfl⟩⟩; refine ⟨_, rfl, ?_⟩))
             go_ret
             exact ⟨eW, bW⟩
           ·rw [if_neg c21] at H
            exact absurd H (by simp)
          ·rw [if_neg c20] at H
           exact absurd H (by simp)
       ·rw [if_neg c16] at H
        exact absurd H (by simp)
      ·rw [if_neg c15] at H
       have c15b0 : decide (x5_2 < (l1.length : Int)) = false := decide_eq_false c15
       clear c15
       replace H := Option.bind_eq_some_iff.mp H
       obtain ⟨t242, A260, H⟩ := H
       replace H : (some (t242 == (l1.length : Int))) = some r := H
       have A26 := Aside0.mk A260
       clear A260
       obtain rfl := Option.some.inj H
       go_wp2_with (first | ((with_reducible refine gate_callee (f := 113) rfl ?_); refine goesS (some 53) Tryd.func113 #[.slice A1 l1.length c1, .int .i64 0] ?_; (with_reducible refine (spec_l13End.calls k2 _ _ l1 0 t242 _ ?side1 ?side2 A26.out).mono ?_); (case side1 => exact cP (Kd.C_below HR1.out HB.out)); (case side2 => exact HC1.out); rintro e w' ⟨rfl, ⟨nd, rfl⟩⟩; refine ⟨_, rfl, ?_⟩))
       go_ret
       exact ⟨eW, bW⟩

/-! ### spec_l13Text: function 62 -/
def spec_l13Text.f : Nat → List (S84) → Int → Option (ByteArray)
 | 0, _, _ => none
 | k + 1, l0, a1 => if 0 ≤ a1 then (if a1 < (l0.length : Int) then (if ((rd_T84 l0 a1).f0) = 0 then (some (⟨#[48]⟩ : ByteArray)) else (if ((rd_T84 l0 a1).f0) = 1 then (some (⟨#[49]⟩ : ByteArray)) else (if ((rd_T84 l0 a1).f0) = 2 then (some (strOfNums (([(wrap64 (97 + ((rd_T84 l0 a1).f1))) % 256] : List Int)))) else (if ((rd_T84 l0 a1).f0) = 3 then ((spec_l13Text.f k l0 (wrap64 (a1 + 1))).bind fun t253 => (if 1 + t253.size ≤ 9223372036854775807 then (if ((⟨#[40]⟩ : ByteArray) ++ t253).size + 1 ≤ 9223372036854775807 then ((spec_l13End.f k l0 (wrap64 (a1 + 1))).bind fun t254 => ((spec_l13Text.f k l0 t254).bind fun t255 => (if (((⟨#[40]⟩ : ByteArray) ++ t253) ++ (⟨#[43]⟩ : ByteArray)).size + t255.size ≤ 9223372036854775807 then (if ((((⟨#[40]⟩ : ByteArray) ++ t253) ++ (⟨#[43]⟩ : ByteArray)) ++ t255).size + 1 ≤ 9223372036854775807 then (some (((((⟨#[40]⟩ : ByteArray) ++ t253) ++ (⟨#[43]⟩ : ByteArray)) ++ t255) ++ (⟨#[41]⟩ : ByteArray))) else (none)) else (none)))) else (none)) else (none))) else (if ((rd_T84 l0 a1).f0) = 4 then ((spec_l13Text.f k l0 (wrap64 (a1 + 1))).bind fun t256 => (if 1 + t256.size ≤ 9223372036854775807 then (if ((⟨#[40]⟩ : ByteArray) ++ t256).size + 1 ≤ 9223372036854775807 then ((spec_l13End.f k l0 (wrap64 (a1 + 1))).bind fun t257 => ((spec_l13Text.f k l0 t257).bind fun t258 => (if (((⟨#[40]⟩ : ByteArray) ++ t256) ++ (⟨#[46]⟩ : ByteArray)).size + t258.size ≤ 9223372036854775807 then (if ((((⟨#[40]⟩ : ByteArray) ++ t256) ++ (⟨#[46]⟩ : ByteArray)) ++ t258).size + 1 ≤ 9223372036854775807 then (some (((((⟨#[40]⟩ : ByteArray) ++ t256) ++ (⟨#[46]⟩ : ByteArray)) ++ t258) ++ (⟨#[41]⟩ : ByteArray))) else (none)) else (none)))) else (none)) else (none))) else ((spec_l13Text.f k l0 (wrap64 (a1 + 1))).bind fun t259 => (if t259.size + 1 ≤ 9223372036854775807 then (some (t259 ++ (⟨#[42]⟩ : ByteArray))) else (none)))))))) else (none)) else (none)
theorem spec_l13Text.mono_l : ∀ k, (∀ y0 y1, LeO (spec_l13Text.f k y0 y1) (spec_l13Text.f (k + 1) y0 y1))
 | 0 => fun _ _ r h => by simp [spec_l13Text.f] at h
 | k + 1 => by
  have ih0 := spec_l13Text.mono_l k
  ·intro y0 y1
   unfold spec_l13Text.f
   repeat' first
   | (with_reducible exact ih0 _ _)
   | (with_reducible exact spec_l13End.mono _ _ _)
   | (with_reducible exact LeO.refl _)
   | (with_reducible exact LeO.none _)
   | (with_reducible refine LeO.ite ?_ ?_)
   | (with_reducible refine LeO.bind ?_ (fun _ => ?_))
   | exact ih0 _ _
   | exact spec_l13End.mono _ _ _
   | exact LeO.none _
   | refine LeO.ite ?_ ?_
   | refine LeO.bind ?_ (fun _ => ?_)
theorem spec_l13Text.mono : ∀ a0 a1 k, LeO (spec_l13Text.f k a0 a1) (spec_l13Text.f (k + 1) a0 a1) := by
 intro a0 a1 k
 have ih0 := spec_l13Text.mono_l k
 exact ih0 a0 a1
set_option maxHeartbeats 8000000 in
set_option maxRecDepth 100000 in
theorem spec_l13Text.calls (k : Nat) : ∀ (A0 : Option Addr) (c0 : Nat) (l0 : List (S84)) (a1 : Int) (r : ByteArray) (w : World) (hr0 : Kd.C k84 w A0 l0.length l0) (hc0 : l0.length ≤ c0) (h : spec_l13Text.f k l0 a1 = some r),
  Calls Tryd.prog 62 #[.slice A0 l0.length c0, .int .i64 a1] w fun e w' => e = .returned (.string r) ∧ Below w.heap.size w w' := by
 induction k using Nat.strongRecOn with
 | _ k ih =>
 intro A0 c0 l0 a1 r w hr0 hc0 h
 cases k with
 | zero => exact absurd h (by simp [spec_l13Text.f])
 | succ k =>
 simp only [spec_l13Text.f] at h
 have HR0 := Aside0.mk hr0
 have HC0 := Aside0.mk hc0
 clear hr0 hc0
 have HB := Aside0.mk (Below.refl w.heap.size w)
 have H : (if 0 ≤ a1 then (if a1 < (l0.length : Int) then (if ((rd_T84 l0 a1).f0) = 0 then (some (⟨#[48]⟩ : ByteArray)) else (if ((rd_T84 l0 a1).f0) = 1 then (some (⟨#[49]⟩ : ByteArray)) else (if ((rd_T84 l0 a1).f0) = 2 then (some (strOfNums (([(wrap64 (97 + ((rd_T84 l0 a1).f1))) % 256] : List Int)))) else (if ((rd_T84 l0 a1).f0) = 3 then ((spec_l13Text.f k l0 (wrap64 (a1 + 1))).bind fun t253 => (if 1 + t253.size ≤ 9223372036854775807 then (if ((⟨#[40]⟩ : ByteArray) ++ t253).size + 1 ≤ 9223372036854775807 then ((spec_l13End.f k l0 (wrap64 (a1 + 1))).bind fun t254 => ((spec_l13Text.f k l0 t254).bind fun t255 => (if (((⟨#[40]⟩ : ByteArray) ++ t253) ++ (⟨#[43]⟩ : ByteArray)).size + t255.size ≤ 9223372036854775807 then (if ((((⟨#[40]⟩ : ByteArray) ++ t253) ++ (⟨#[43]⟩ : ByteArray)) ++ t255).size + 1 ≤ 9223372036854775807 then (some (((((⟨#[40]⟩ : ByteArray) ++ t253) ++ (⟨#[43]⟩ : ByteArray)) ++ t255) ++ (⟨#[41]⟩ : ByteArray))) else (none)) else (none)))) else (none)) else (none))) else (if ((rd_T84 l0 a1).f0) = 4 then ((spec_l13Text.f k l0 (wrap64 (a1 + 1))).bind fun t256 => (if 1 + t256.size ≤ 9223372036854775807 then (if ((⟨#[40]⟩ : ByteArray) ++ t256).size + 1 ≤ 9223372036854775807 then ((spec_l13End.f k l0 (wrap64 (a1 + 1))).bind fun t257 => ((spec_l13Text.f k l0 t257).bind fun t258 => (if (((⟨#[40]⟩ : ByteArray) ++ t256) ++ (⟨#[46]⟩ : ByteArray)).size + t258.size ≤ 9223372036854775807 then (if ((((⟨#[40]⟩ : ByteArray) ++ t256) ++ (⟨#[46]⟩ : ByteArray)) ++ t258).size + 1 ≤ 9223372036854775807 then (some (((((⟨#[40]⟩ : ByteArray) ++ t256) ++ (⟨#[46]⟩ : ByteArray)) ++ t258) ++ (⟨#[41]⟩ : ByteArray))) else (none)) else (none)))) else (none)) else (none))) else ((spec_l13Text.f k l0 (wrap64 (a1 + 1))).bind fun t259 => (if t259.size + 1 ≤ 9223372036854775807 then (some (t259 ++ (⟨#[42]⟩ : ByteArray))) else (none)))))))) else (none)) else (none)) = some r := h
 clear h
 by_cases c3 : 0 ≤ a1
 ·rw [if_pos c3] at H
  have c3b0 : decide (0 ≤ a1) = true := decide_eq_true c3
  clear c3
  by_cases c4 : a1 < (l0.length : Int)
  ·rw [if_pos c4] at H
   have c4b0 : decide (a1 < (l0.length : Int)) = true := decide_eq_true c4
   clear c4
   by_cases c5 : ((rd_T84 l0 a1).f0) = 0
   ·rw [if_pos c5] at H
    have c5b0 : (((rd_T84 l0 a1).f0) == 0) = true := beq_iff_eq.mpr c5
    have c5b1 : (((rd_T84 l0 a1).f0) != 0) = false := bne_eq_false_iff_eq.mpr c5
    clear c5
    obtain rfl := Option.some.inj H
    have p248 : 0 ≤ (a1 : Int) := ofD
    have q248 : a1 < (l0.length : Int) := ofD
    obtain ⟨ad248, e248, hx248_0, hx248_1⟩ := at_T84 HR0.out a1 p248 q248
    cases e248
    replace p248 := eq_true p248
    replace q248 := eq_true q248
    go_enter Tryd.func62, Tryd.ntmps62
    go_wp2
    go_ret
    exact ⟨eW, bW⟩
   ·rw [if_neg c5] at H
    have c5b0 : (((rd_T84 l0 a1).f0) == 0) = false := beq_eq_false_iff_ne.mpr c5
    have c5b1 : (((rd_T84 l0 a1).f0) != 0) = true := bne_iff_ne.mpr c5
    by_cases c6 : ((rd_T84 l0 a1).f0) = 1
    ·rw [if_pos c6] at H
     have c6b0 : (((rd_T84 l0 a1).f0) == 1) = true := beq_iff_eq.mpr c6
     have c6b1 : (((rd_T84 l0 a1).f0) != 1) = false := bne_eq_false_iff_eq.mpr c6
     clear c6
     obtain rfl := Option.some.inj H
     have p248 : 0 ≤ (a1 : Int) := ofD
     have q248 : a1 < (l0.length : Int) := ofD
     obtain ⟨ad248, e248, hx248_0, hx248_1⟩ := at_T84 HR0.out a1 p248 q248
     cases e248
     replace p248 := eq_true p248
     replace q248 := eq_true q248
     go_enter Tryd.func62, Tryd.ntmps62
     go_wp2
     go_ret
     exact ⟨eW, bW⟩
    ·rw [if_neg c6] at H
     have c6b0 : (((rd_T84 l0 a1).f0) == 1) = false := beq_eq_false_iff_ne.mpr c6
     have c6b1 : (((rd_T84 l0 a1).f0) != 1) = true := bne_iff_ne.mpr c6
     by_cases c7 : ((rd_T84 l0 a1).f0) = 2
     ·rw [if_pos c7] at H
      have c7b0 : (((rd_T84 l0 a1).f0) == 2) = true := beq_iff_eq.mpr c7
      have c7b1 : (((rd_T84 l0 a1).f0) != 2) = false := bne_eq_false_iff_eq.mpr c7
      clear c7
      obtain ⟨y250, hy250⟩ : ∃ y_ : List Int, y_ = (([(wrap64 (97 + ((rd_T84 l0 a1).f1))) % 256] : List Int)) := ⟨_, rfl⟩
      replace H : (some (strOfNums y250)) = some r := by first | (rw [hy250]; with_reducible exact H) | (have H2_ := (Option.bind_some _ _).symm.trans H; rw [hy250]; with_reducible exact H2_) | (have H2_ := (Option.bind_some _ _).symm.trans H; with_reducible exact H2_) | with_reducible exact H | (rw [hy250]; exact H) | exact H
      have Ny250 := Aside0.mk hy250
      clear hy250
      obtain rfl := Option.some.inj H
      have p248 : 0 ≤ (a1 : Int) := ofD
      have q248 : a1 < (l0.length : Int) := ofD
      obtain ⟨ad248, e248, hx248_0, hx248_1⟩ := at_T84 HR0.out a1 p248 q248
      cases e248
      replace p248 := eq_true p248
      replace q248 := eq_true q248
      have p249 : 0 ≤ (a1 : Int) := ofD
      have q249 : a1 < (l0.length : Int) := ofD
      obtain ⟨ad249, e249, hx249_0, hx249_1⟩ := at_T84 HR0.out a1 p249 q249
      obtain rfl : ad248 = ad249 := (by injection e249)
      replace p249 := eq_true p249
      replace q249 := eq_true q249
      go_enter Tryd.func62, Tryd.ntmps62
      go_wp2_with (first | ((with_reducible refine gate_dst (N := 23) rfl ?_); refine Kd.R_lit (Kd.int .u8) _ 5 ?hg (N := 23) ?hd (xs := ([(wrap64 (97 + ((rd_T84 l0 a1).f1))) % 256] : List Int)) (inner := [.int .u8 ((wrap64 (97 + ((rd_T84 l0 a1).f1))) % 256)]) (ok := fun _ => True) (okp := fun _ => True) ?hr ?hp (fun _ hk => hk) trivial (Below.refl _ _) (Nat.le_refl _) (by simp) ?_; (case hd => rfl); (case hg => rfl); (case hr => first | (go_simp; done) | (go_simp; rfl)); (case hp => exact (Reps.one (show Kd.M (Kd.int .u8) _ _ _ ((wrap64 (97 + ((rd_T84 l0 a1).f1))) % 256) [.int .u8 ((wrap64 (97 + ((rd_T84 l0 a1).f1))) % 256)] from rfl) (Reps.none _ _))); intro v251 w8 ho9 hb hg_ hnew_; clear hg_ hnew_; (first | rw [← Ny250.out] at ho9 | (simp only [Int.reduceToNat] at ho9; rw [← Ny250.out] at ho9)); have n0_ := Aside0.mk (Kd.R_lower ho9 (below_size (bW))); have n1_ := Aside0.mk (below_step (bW) hb); clear HB; have HO252 := n0_; have HB := n1_; clear n0_ n1_; clear hb ho9; have hcv10 := own_string (P := Tryd.prog) Tryd.underlying76 Tryd.underlying5 Tryd.underlying9 (Kd.own_of_R HO252.out)))
      go_ret
      exact ⟨eW, bW⟩
     ·rw [if_neg c7] at H
      have c7b0 : (((rd_T84 l0 a1).f0) == 2) = false := beq_eq_false_iff_ne.mpr c7
      have c7b1 : (((rd_T84 l0 a1).f0) != 2) = true := bne_iff_ne.mpr c7
      by_cases c11 : ((rd_T84 l0 a1).f0) = 3
      ·rw [if_pos c11] at H
       have c11b0 : (((rd_T84 l0 a1).f0) == 3) = true := beq_iff_eq.mpr c11
       have c11b1 : (((rd_T84 l0 a1).f0) != 3) = false := bne_eq_false_iff_eq.mpr c11
       clear c11
       replace H := Option.bind_eq_some_iff.mp H
       obtain ⟨t253, A120, H⟩ := H
       replace H : (if 1 + t253.size ≤ 9223372036854775807 then (if ((⟨#[40]⟩ : ByteArray) ++ t253).size + 1 ≤ 9223372036854775807 then ((spec_l13End.f k l0 (wrap64 (a1 + 1))).bind fun t254 => ((spec_l13Text.f k l0 t254).bind fun t255 => (if (((⟨#[40]⟩ : ByteArray) ++ t253) ++ (⟨#[43]⟩ : ByteArray)).size + t255.size ≤ 9223372036854775807 then (if ((((⟨#[40]⟩ : ByteArray) ++ t253) ++ (⟨#[43]⟩ : ByteArray)) ++ t255).size + 1 ≤ 9223372036854775807 then (some (((((⟨#[40]⟩ : ByteArray) ++ t253) ++ (⟨#[43]⟩ : ByteArray)) ++ t255) ++ (⟨#[41]⟩ : ByteArray))) else (none)) else (none)))) else (none)) else (none)) = some r := H
       have A12 := Aside0.mk A120
       clear A120
       by_cases c13 : 1 + t253.size ≤ 9223372036854775807
       ·rw [if_pos c13] at H
        have c13b0 := eq_true c13
        have c13b1 : decide (1 + t253.size ≤ 9223372036854775807) = true := decide_eq_true c13
        try have c13b2 : (9223372036854775807 < 1 + t253.size) = False := eq_false (Nat.not_lt.2 c13)
        by_cases c14 : ((⟨#[40]⟩ : ByteArray) ++ t253).size + 1 ≤ 9223372036854775807
        ·rw [if_pos c14] at H
         have c14b0 := eq_true c14
         have c14b1 : decide (((⟨#[40]⟩ : ByteArray) ++ t253).size + 1 ≤ 9223372036854775807) = true := decide_eq_true c14
         try have c14b2 : (9223372036854775807 < ((⟨#[40]⟩ : ByteArray) ++ t253).size + 1) = False := eq_false (Nat.not_lt.2 c14)
         try have c14b3 : (9223372036854775807 < 1 + t253.size + 1) = False := eq_false (by have h_ := c14; simp only [ByteArray.size_append, show (⟨#[40]⟩ : ByteArray).size = 1 from rfl] at h_; omega)
         replace H := Option.bind_eq_some_iff.mp H
         obtain ⟨t254, A150, H⟩ := H
         replace H : ((spec_l13Text.f k l0 t254).bind fun t255 => (if (((⟨#[40]⟩ : ByteArray) ++ t253) ++ (⟨#[43]⟩ : ByteArray)).size + t255.size ≤ 9223372036854775807 then (if ((((⟨#[40]⟩ : ByteArray) ++ t253) ++ (⟨#[43]⟩ : ByteArray)) ++ t255).size + 1 ≤ 9223372036854775807 then (some (((((⟨#[40]⟩ : ByteArray) ++ t253) ++ (⟨#[43]⟩ : ByteArray)) ++ t255) ++ (⟨#[41]⟩ : ByteArray))) else (none)) else (none))) = some r := H
         have A15 := Aside0.mk A150
         clear A150
         replace H := Option.bind_eq_some_iff.mp H
         obtain ⟨t255, A160, H⟩ := H
         replace H : (if (((⟨#[40]⟩ : ByteArray) ++ t253) ++ (⟨#[43]⟩ : ByteArray)).size + t255.size ≤ 9223372036854775807 then (if ((((⟨#[40]⟩ : ByteArray) ++ t253) ++ (⟨#[43]⟩ : ByteArray)) ++ t255).size + 1 ≤ 9223372036854775807 then (some (((((⟨#[40]⟩ : ByteArray) ++ t253) ++ (⟨#[43]⟩ : ByteArray)) ++ t255) ++ (⟨#[41]⟩ : ByteArray))) else (none)) else (none)) = some r := H
         have A16 := Aside0.mk A160
         clear A160
         by_cases c17 : (((⟨#[40]⟩ : ByteArray) ++ t253) ++ (⟨#[43]⟩ : ByteArray)).size + t255.size ≤ 9223372036854775807
         ·rw [if_pos c17] at H
          have c17b0 := eq_true c17
          have c17b1 : decide ((((⟨#[40]⟩ : ByteArray) ++ t253) ++ (⟨#[43]⟩ : ByteArray)).size + t255.size ≤ 9223372036854775807) = true := decide_eq_true c17
          try have c17b2 : (9223372036854775807 < (((⟨#[40]⟩ : ByteArray) ++ t253) ++ (⟨#[43]⟩ : ByteArray)).size + t255.size) = False := eq_false (Nat.not_lt.2 c17)
          try have c17b3 : (9223372036854775807 < 1 + t253.size + 1 + t255.size) = False := eq_false (by have h_ := c17; simp only [ByteArray.size_append, show (⟨#[40]⟩ : ByteArray).size = 1 from rfl, show (⟨#[43]⟩ : ByteArray).size = 1 from rfl] at h_; omega)
          by_cases c18 : ((((⟨#[40]⟩ : ByteArray) ++ t253) ++ (⟨#[43]⟩ : ByteArray)) ++ t255).size + 1 ≤ 9223372036854775807
          ·rw [if_pos c18] at H
           have c18b0 := eq_true c18
           have c18b1 : decide (((((⟨#[40]⟩ : ByteArray) ++ t253) ++ (⟨#[43]⟩ : ByteArray)) ++ t255).size + 1 ≤ 9223372036854775807) = true := decide_eq_true c18
           try have c18b2 : (9223372036854775807 < ((((⟨#[40]⟩ : ByteArray) ++ t253) ++ (⟨#[43]⟩ : ByteArray)) ++ t255).size + 1) = False := eq_false (Nat.not_lt.2 c18)
           try have c18b3 : (9223372036854775807 < 1 + t253.size + 1 + t255.size + 1) = False := eq_false (by have h_ := c18; simp only [ByteArray.size_append, show (⟨#[40]⟩ : ByteArray).size = 1 from rfl, show (⟨#[43]⟩ : ByteArray).size = 1 from rfl] at h_; omega)
           obtain rfl := Option.some.inj H
           have p248 : 0 ≤ (a1 : Int) := ofD
           have q248 : a1 < (l0.length : Int) := ofD
           obtain ⟨ad248, e248, hx248_0, hx248_1⟩ := at_T84 HR0.out a1 p248 q248
           cases e248
           replace p248 := eq_true p248
           replace q248 := eq_true q248
           go_enter Tryd.func62, Tryd.ntmps62
           go_wp2_with (first | ((with_reducible refine gate_callee (f := 62) rfl ?_); refine goesS (some 30) Tryd.func62 #[.slice (some ad248) l0.length c0, .int .i64 (wrap64 (a1 + 1))] ?_; (with_reducible refine (ih k (by omega) _ _ l0 (wrap64 (a1 + 1)) t253 _ ?side1 ?side2 A12.out).mono ?_); (case side1 => exact cP HR0.out); (case side2 => exact HC0.out); rintro e w19 ⟨rfl, hb⟩; refine ⟨_, rfl, ?_⟩; have n0_ := Aside0.mk (below_step (bW) hb); clear HB; have HB := n0_; clear n0_; (try clear hb); (try clear hb2); (try clear hk); (try clear hi)) | ((with_reducible refine gate_callee (f := 113) rfl ?_); refine goesS (some 37) Tryd.func113 #[.slice (some ad248) l0.length c0, .int .i64 (wrap64 (a1 + 1))] ?_; (with_reducible refine (spec_l13End.calls k _ _ l0 (wrap64 (a1 + 1)) t254 _ ?side1 ?side2 A15.out).mono ?_); (case side1 => exact cP (Kd.C_below HR0.out HB.out)); (case side2 => exact HC0.out); rintro e w' ⟨rfl, ⟨nd, rfl⟩⟩; refine ⟨_, rfl, ?_⟩) | ((with_reducible refine gate_callee (f := 62) rfl ?_); refine goesS (some 38) Tryd.func62 #[.slice (some ad248) l0.length c0, .int .i64 t254] ?_; (with_reducible refine (ih k (by omega) _ _ l0 t254 t255 _ ?side1 ?side2 A16.out).mono ?_); (case side1 => exact cP (Kd.C_below HR0.out (bW))); (case side2 => exact HC0.out); rintro e w20 ⟨rfl, hb⟩; refine ⟨_, rfl, ?_⟩; have n0_ := Aside0.mk (below_step (bW) hb); clear HB; have HB := n0_; clear n0_; (try clear hb); (try clear hb2); (try clear hk); (try clear hi)))
           go_ret
           exact ⟨eW, bW⟩
          ·rw [if_neg c18] at H
           exact absurd H (by simp)
         ·rw [if_neg c17] at H
          exact absurd H (by simp)
        ·rw [if_neg c14] at H
         exact absurd H (by simp)
       ·rw [if_neg c13] at H
        exact absurd H (by simp)
      ·rw [if_neg c11] at H
       have c11b0 : (((rd_T84 l0 a1).f0) == 3) = false := beq_eq_false_iff_ne.mpr c11
       have c11b1 : (((rd_T84 l0 a1).f0) != 3) = true := bne_iff_ne.mpr c11
       by_cases c21 : ((rd_T84 l0 a1).f0) = 4
       ·rw [if_pos c21] at H
        have c21b0 : (((rd_T84 l0 a1).f0) == 4) = true := beq_iff_eq.mpr c21
        have c21b1 : (((rd_T84 l0 a1).f0) != 4) = false := bne_eq_false_iff_eq.mpr c21
        clear c21
        replace H := Option.bind_eq_some_iff.mp H
        obtain ⟨t256, A220, H⟩ := H
        replace H : (if 1 + t256.size ≤ 9223372036854775807 then (if ((⟨#[40]⟩ : ByteArray) ++ t256).size + 1 ≤ 9223372036854775807 then ((spec_l13End.f k l0 (wrap64 (a1 + 1))).bind fun t257 => ((spec_l13Text.f k l0 t257).bind fun t258 => (if (((⟨#[40]⟩ : ByteArray) ++ t256) ++ (⟨#[46]⟩ : ByteArray)).size + t258.size ≤ 9223372036854775807 then (if ((((⟨#[40]⟩ : ByteArray) ++ t256) ++ (⟨#[46]⟩ : ByteArray)) ++ t258).size + 1 ≤ 9223372036854775807 then (some (((((⟨#[40]⟩ : ByteArray) ++ t256) ++ (⟨#[46]⟩ : ByteArray)) ++ t258) ++ (⟨#[41]⟩ : ByteArray))) else (none)) else (none)))) else (none)) else (none)) = some r := H
        have A22 := Aside0.mk A220
        clear A220
        by_cases c23 : 1 + t256.size ≤ 9223372036854775807
        ·rw [if_pos c23] at H
         have c23b0 := eq_true c23
         have c23b1 : decide (1 + t256.size ≤ 9223372036854775807) = true := decide_eq_true c23
         try have c23b2 : (9223372036854775807 < 1 + t256.size) = False := eq_false (Nat.not_lt.2 c23)
         by_cases c24 : ((⟨#[40]⟩ : ByteArray) ++ t256).size + 1 ≤ 9223372036854775807
         ·rw [if_pos c24] at H
          have c24b0 := eq_true c24
          have c24b1 : decide (((⟨#[40]⟩ : ByteArray) ++ t256).size + 1 ≤ 9223372036854775807) = true := decide_eq_true c24
          try have c24b2 : (9223372036854775807 < ((⟨#[40]⟩ : ByteArray) ++ t256).size + 1) = False := eq_false (Nat.not_lt.2 c24)
          try have c24b3 : (9223372036854775807 < 1 + t256.size + 1) = False := eq_false (by have h_ := c24; simp only [ByteArray.size_append, show (⟨#[40]⟩ : ByteArray).size = 1 from rfl] at h_; omega)
          replace H := Option.bind_eq_some_iff.mp H
          obtain ⟨t257, A250, H⟩ := H
          replace H : ((spec_l13Text.f k l0 t257).bind fun t258 => (if (((⟨#[40]⟩ : ByteArray) ++ t256) ++ (⟨#[46]⟩ : ByteArray)).size + t258.size ≤ 9223372036854775807 then (if ((((⟨#[40]⟩ : ByteArray) ++ t256) ++ (⟨#[46]⟩ : ByteArray)) ++ t258).size + 1 ≤ 9223372036854775807 then (some (((((⟨#[40]⟩ : ByteArray) ++ t256) ++ (⟨#[46]⟩ : ByteArray)) ++ t258) ++ (⟨#[41]⟩ : ByteArray))) else (none)) else (none))) = some r := H
          have A25 := Aside0.mk A250
          clear A250
          replace H := Option.bind_eq_some_iff.mp H
          obtain ⟨t258, A260, H⟩ := H
          replace H : (if (((⟨#[40]⟩ : ByteArray) ++ t256) ++ (⟨#[46]⟩ : ByteArray)).size + t258.size ≤ 9223372036854775807 then (if ((((⟨#[40]⟩ : ByteArray) ++ t256) ++ (⟨#[46]⟩ : ByteArray)) ++ t258).size + 1 ≤ 9223372036854775807 then (some (((((⟨#[40]⟩ : ByteArray) ++ t256) ++ (⟨#[46]⟩ : ByteArray)) ++ t258) ++ (⟨#[41]⟩ : ByteArray))) else (none)) else (none)) = some r := H
          have A26 := Aside0.mk A260
          clear A260
          by_cases c27 : (((⟨#[40]⟩ : ByteArray) ++ t256) ++ (⟨#[46]⟩ : ByteArray)).size + t258.size ≤ 9223372036854775807
          ·rw [if_pos c27] at H
           have c27b0 := eq_true c27
           have c27b1 : decide ((((⟨#[40]⟩ : ByteArray) ++ t256) ++ (⟨#[46]⟩ : ByteArray)).size + t258.size ≤ 9223372036854775807) = true := decide_eq_true c27
           try have c27b2 : (9223372036854775807 < (((⟨#[40]⟩ : ByteArray) ++ t256) ++ (⟨#[46]⟩ : ByteArray)).size + t258.size) = False := eq_false (Nat.not_lt.2 c27)
           try have c27b3 : (9223372036854775807 < 1 + t256.size + 1 + t258.size) = False := eq_false (by have h_ := c27; simp only [ByteArray.size_append, show (⟨#[40]⟩ : ByteArray).size = 1 from rfl, show (⟨#[46]⟩ : ByteArray).size = 1 from rfl] at h_; omega)
           by_cases c28 : ((((⟨#[40]⟩ : ByteArray) ++ t256) ++ (⟨#[46]⟩ : ByteArray)) ++ t258).size + 1 ≤ 9223372036854775807
           ·rw [if_pos c28] at H
            have c28b0 := eq_true c28
            have c28b1 : decide (((((⟨#[40]⟩ : ByteArray) ++ t256) ++ (⟨#[46]⟩ : ByteArray)) ++ t258).size + 1 ≤ 9223372036854775807) = true := decide_eq_true c28
            try have c28b2 : (9223372036854775807 < ((((⟨#[40]⟩ : ByteArray) ++ t256) ++ (⟨#[46]⟩ : ByteArray)) ++ t258).size + 1) = False := eq_false (Nat.not_lt.2 c28)
            try have c28b3 : (9223372036854775807 < 1 + t256.size + 1 + t258.size + 1) = False := eq_false (by have h_ := c28; simp only [ByteArray.size_append, show (⟨#[40]⟩ : ByteArray).size = 1 from rfl, show (⟨#[46]⟩ : ByteArray).size = 1 from rfl] at h_; omega)
            obtain rfl := Option.some.inj H
            have p248 : 0 ≤ (a1 : Int) := ofD
            have q248 : a1 < (l0.length : Int) := ofD
            obtain ⟨ad248, e248, hx248_0, hx248_1⟩ := at_T84 HR0.out a1 p248 q248
            cases e248
            replace p248 := eq_true p248
            replace q248 := eq_true q248
            go_enter Tryd.func62, Tryd.ntmps62
            go_wp2_with (first | ((with_reducible refine gate_callee (f := 62) rfl ?_); refine goesS (some 46) Tryd.func62 #[.slice (some ad248) l0.length c0, .int .i64 (wrap64 (a1 + 1))] ?_; (with_reducible refine (ih k (by omega) _ _ l0 (wrap64 (a1 + 1)) t256 _ ?side1 ?side2 A22.out).mono ?_); (case side1 => exact cP HR0.out); (case side2 => exact HC0.out); rintro e w29 ⟨rfl, hb⟩; refine ⟨_, rfl, ?_⟩; have n0_ := Aside0.mk (below_step (bW) hb); clear HB; have HB := n0_; clear n0_; (try clear hb); (try clear hb2); (try clear hk); (try clear hi)) | ((with_reducible refine gate_callee (f := 113) rfl ?_); refine goesS (some 53) Tryd.func113 #[.slice (some ad248) l0.length c0, .int .i64 (wrap64 (a1 + 1))] ?_; (with_reducible refine (spec_l13End.calls k _ _ l0 (wrap64 (a1 + 1)) t257 _ ?side1 ?side2 A25.out).mono ?_); (case side1 => exact cP (Kd.C_below HR0.out HB.out)); (case side2 => exact HC0.out); rintro e w' ⟨rfl, ⟨nd, rfl⟩⟩; refine ⟨_, rfl, ?_⟩) | ((with_reducible refine gate_callee (f := 62) rfl ?_); refine goesS (some 54) Tryd.func62 #[.slice (some ad248) l0.length c0, .int .i64 t257] ?_; (with_reducible refine (ih k (by omega) _ _ l0 t257 t258 _ ?side1 ?side2 A26.out).mono ?_); (case side1 => exact cP (Kd.C_below HR0.out (bW))); (case side2 => exact HC0.out); rintro e w30 ⟨rfl, hb⟩; refine ⟨_, rfl, ?_⟩; have n0_ := Aside0.mk (below_step (bW) hb); clear HB; have HB := n0_; clear n0_; (try clear hb); (try clear hb2); (try clear hk); (try clear hi)))
            go_ret
            exact ⟨eW, bW⟩
           ·rw [if_neg c28] at H
            exact absurd H (by simp)
          ·rw [if_neg c27] at H
           exact absurd H (by simp)
         ·rw [if_neg c24] at H
          exact absurd H (by simp)
        ·rw [if_neg c23] at H
         exact absurd H (by simp)
       ·rw [if_neg c21] at H
        have c21b0 : (((rd_T84 l0 a1).f0) == 4) = false := beq_eq_false_iff_ne.mpr c21
        have c21b1 : (((rd_T84 l0 a1).f0) != 4) = true := bne_iff_ne.mpr c21
        replace H := Option.bind_eq_some_iff.mp H
        obtain ⟨t259, A310, H⟩ := H
        replace H : (if t259.size + 1 ≤ 9223372036854775807 then (some (t259 ++ (⟨#[42]⟩ : ByteArray))) else (none)) = some r := H
        have A31 := Aside0.mk A310
        clear A310
        by_cases c32 : t259.size + 1 ≤ 9223372036854775807
        ·rw [if_pos c32] at H
         have c32b0 := eq_true c32
         have c32b1 : decide (t259.size + 1 ≤ 9223372036854775807) = true := decide_eq_true c32
         try have c32b2 : (9223372036854775807 < t259.size + 1) = False := eq_false (Nat.not_lt.2 c32)
         obtain rfl := Option.some.inj H
         have p248 : 0 ≤ (a1 : Int) := ofD
         have q248 : a1 < (l0.length : Int) := ofD
         obtain ⟨ad248, e248, hx248_0, hx248_1⟩ := at_T84 HR0.out a1 p248 q248
         cases e248
         replace p248 := eq_true p248
         replace q248 := eq_true q248
         go_enter Tryd.func62, Tryd.ntmps62
         go_wp2_with (first | ((with_reducible refine gate_callee (f := 62) rfl ?_); refine goesS (some 60) Tryd.func62 #[.slice (some ad248) l0.length c0, .int .i64 (wrap64 (a1 + 1))] ?_; (with_reducible refine (ih k (by omega) _ _ l0 (wrap64 (a1 + 1)) t259 _ ?side1 ?side2 A31.out).mono ?_); (case side1 => exact cP HR0.out); (case side2 => exact HC0.out); rintro e w33 ⟨rfl, hb⟩; refine ⟨_, rfl, ?_⟩; have n0_ := Aside0.mk (below_step (bW) hb); clear HB; have HB := n0_; clear n0_; (try clear hb); (try clear hb2); (try clear hk); (try clear hi)))
         go_ret
         exact ⟨eW, bW⟩
        ·rw [if_neg c32] at H
         exact absurd H (by simp)
  ·rw [if_neg c4] at H
   exact absurd H (by simp)
 ·rw [if_neg c3] at H
  exact absurd H (by simp)

/-! ### spec_ExpressionText: function 21 -/
def spec_ExpressionText.f (k : Nat) (a0_0 : Int) (l0_1 : List Int) (l1 : List (S84)) : Option (ByteArray × Int) := (spec_IsExpression.f k a0_0 l0_1 l1).bind fun t261 => (if t261 = true then ((spec_l13Text.f k l1 0).bind fun t262 => (some (t262, 0))) else (some ((⟨#[]⟩ : ByteArray), 1)))
theorem spec_ExpressionText.mono : ∀ a0 a1 a2 k, LeO (spec_ExpressionText.f k a0 a1 a2) (spec_ExpressionText.f (k + 1) a0 a1 a2) := by
 intro a0 a1 a2 k
 unfold spec_ExpressionText.f
 repeat' first
   | (with_reducible exact spec_IsExpression.mono _ _ _ _)
   | (with_reducible exact spec_l13Text.mono _ _ _)
   | (with_reducible exact LeO.refl _)
   | (with_reducible exact LeO.none _)
   | (with_reducible refine LeO.ite ?_ ?_)
   | (with_reducible refine LeO.bind ?_ (fun _ => ?_))
   | exact spec_IsExpression.mono _ _ _ _
   | exact spec_l13Text.mono _ _ _
   | exact LeO.none _
   | refine LeO.ite ?_ ?_
   | refine LeO.bind ?_ (fun _ => ?_)
set_option maxHeartbeats 8000000 in
set_option maxRecDepth 100000 in
theorem spec_ExpressionText.calls (k : Nat) (a0_0 : Int) (A0_1 : Option Addr) (c0_1 : Nat) (l0_1 : List Int) (A1 : Option Addr) (c1 : Nat) (l1 : List (S84)) (r1 : ByteArray) (r2 : Int) (w : World) (hr0_1 : Kd.C (Kd.int .i64) w A0_1 l0_1.length l0_1) (hc0_1 : l0_1.length ≤ c0_1) (hr1 : Kd.C k84 w A1 l1.length l1) (hc1 : l1.length ≤ c1) (h : spec_ExpressionText.f k a0_0 l0_1 l1 = some (r1, r2)) :
  Calls Tryd.prog 21 #[.agg #[.int .i64 a0_0, .slice A0_1 l0_1.length c0_1], .slice A1 l1.length c1] w fun e w' => e = .returned (.tuple #[.string r1, .int .i64 r2]) ∧ Below w.heap.size w w' := by
 have hu29 := Tryd.underlying29
 have HR0_1 := Aside0.mk hr0_1
 have HC0_1 := Aside0.mk hc0_1
 clear hr0_1 hc0_1
 have HR1 := Aside0.mk hr1
 have HC1 := Aside0.mk hc1
 clear hr1 hc1
 have HB := Aside0.mk (Below.refl w.heap.size w)
 have H : ((spec_IsExpression.f k a0_0 l0_1 l1).bind fun t261 => (if t261 = true then ((spec_l13Text.f k l1 0).bind fun t262 => (some (t262, 0))) else (some ((⟨#[]⟩ : ByteArray), 1)))) = some (r1, r2) := h
 clear h
 replace H := Option.bind_eq_some_iff.mp H
 obtain ⟨t261, A30, H⟩ := H
 replace H : (if t261 = true then ((spec_l13Text.f k l1 0).bind fun t262 => (some (t262, 0))) else (some ((⟨#[]⟩ : ByteArray), 1))) = some (r1, r2) := H
 have A3 := Aside0.mk A30
 clear A30
 by_cases c4 : t261 = true
 ·subst c4
  have H1 : ((spec_l13Text.f k l1 0).bind fun t262 => (some (t262, 0))) = some (r1, r2) := by rw [if_pos rfl] at H; exact H
  clear H
  have H := H1
  clear H1
  replace H := Option.bind_eq_some_iff.mp H
  obtain ⟨t262, A50, H⟩ := H
  replace H : (some (t262, 0)) = some (r1, r2) := H
  have A5 := Aside0.mk A50
  clear A50
  simp only [Option.some.injEq, Prod.mk.injEq] at H
  obtain ⟨rfl, rfl⟩ := H
  go_enter Tryd.func21, Tryd.ntmps21
  go_wp2_with (first | ((with_reducible refine gate_dst (N := 2) rfl ?_); refine boxS (N := 2) (cs := #[.int .i64 a0_0, .slice A0_1 l0_1.length c0_1]) (t := 29) ?_; intro gb260 hg w6 hbox hb; have n0_ := Aside0.mk (below_step (bW) hb); have n1_ := Aside0.mk (hbox); have n2_ := geW (w := w) hg; have n3_ := geW (w := w) hg; clear HB; have HB := n0_; have BK260 := n1_; have GW260 := n2_; have GE260 := n3_; clear n0_ n1_ n2_ n3_; clear hb hbox hg; obtain ⟨hcz7_0, hcz7_1⟩ := cells2 BK260.out; obtain ⟨hfz7_0, hfz7_1⟩ := frz2 BK260.out) | ((with_reducible refine gate_callee (f := 61) rfl ?_); refine goesS (some 8) Tryd.func61 #[.agg #[.int .i64 a0_0, .slice A0_1 l0_1.length c0_1], .slice A1 l1.length c1] ?_; (with_reducible refine (spec_IsExpression.calls k a0_0 _ _ l0_1 _ _ l1 true _ ?side1 ?side2 ?side3 ?side4 A3.out).mono ?_); (case side1 => exact cP (Kd.C_below HR0_1.out HB.out)); (case side2 => exact HC0_1.out); (case side3 => exact cP (Kd.C_below HR1.out HB.out)); (case side4 => exact HC1.out); rintro e w8 ⟨rfl, hb⟩; refine ⟨_, rfl, ?_⟩; have n0_ := Aside0.mk (blkB BK260.out hb); have n1_ := Aside0.mk (below_step (bW) hb); clear BK260; clear HB; have BK260 := n0_; have HB := n1_; clear n0_ n1_; (try clear hb); (try clear hb2); (try clear hk); (try clear hi)) | ((with_reducible refine gate_callee (f := 62) rfl ?_); refine goesS (some 11) Tryd.func62 #[.slice A1 l1.length c1, .int .i64 0] ?_; (with_reducible refine (spec_l13Text.calls k _ _ l1 0 t262 _ ?side1 ?side2 A5.out).mono ?_); (case side1 => exact cP (Kd.C_below HR1.out HB.out)); (case side2 => exact HC1.out); rintro e w9 ⟨rfl, hb⟩; refine ⟨_, rfl, ?_⟩; have n0_ := Aside0.mk (blkB BK260.out hb); have n1_ := Aside0.mk (below_step (bW) hb); clear BK260; clear HB; have BK260 := n0_; have HB := n1_; clear n0_ n1_; (try clear hb); (try clear hb2); (try clear hk); (try clear hi)))
  go_ret2
  exact ⟨eW, bW⟩
 ·replace c4 := Bool.eq_false_iff.mpr c4
  subst c4
  have H1 : (some ((⟨#[]⟩ : ByteArray), 1)) = some (r1, r2) := by rw [if_neg (show ¬ (false = true) by decide)] at H; exact H
  clear H
  have H := H1
  clear H1
  simp only [Option.some.injEq, Prod.mk.injEq] at H
  obtain ⟨rfl, rfl⟩ := H
  go_enter Tryd.func21, Tryd.ntmps21
  go_wp2_with (first | ((with_reducible refine gate_dst (N := 2) rfl ?_); refine boxS (N := 2) (cs := #[.int .i64 a0_0, .slice A0_1 l0_1.length c0_1]) (t := 29) ?_; intro gb260 hg w10 hbox hb; have n0_ := Aside0.mk (below_step (bW) hb); have n1_ := Aside0.mk (hbox); have n2_ := geW (w := w) hg; have n3_ := geW (w := w) hg; clear HB; have HB := n0_; have BK260 := n1_; have GW260 := n2_; have GE260 := n3_; clear n0_ n1_ n2_ n3_; clear hb hbox hg; obtain ⟨hcz11_0, hcz11_1⟩ := cells2 BK260.out; obtain ⟨hfz11_0, hfz11_1⟩ := frz2 BK260.out) | ((with_reducible refine gate_callee (f := 61) rfl ?_); refine goesS (some 8) Tryd.func61 #[.agg #[.int .i64 a0_0, .slice A0_1 l0_1.length c0_1], .slice A1 l1.length c1] ?_; (with_reducible refine (spec_IsExpression.calls k a0_0 _ _ l0_1 _ _ l1 false _ ?side1 ?side2 ?side3 ?side4 A3.out).mono ?_); (case side1 => exact cP (Kd.C_below HR0_1.out HB.out)); (case side2 => exact HC0_1.out); (case side3 => exact cP (Kd.C_below HR1.out HB.out)); (case side4 => exact HC1.out); rintro e w12 ⟨rfl, hb⟩; refine ⟨_, rfl, ?_⟩; have n0_ := Aside0.mk (blkB BK260.out hb); have n1_ := Aside0.mk (below_step (bW) hb); clear BK260; clear HB; have BK260 := n0_; have HB := n1_; clear n0_ n1_; (try clear hb); (try clear hb2); (try clear hk); (try clear hi)))
  go_ret2
  exact ⟨eW, bW⟩

/-! ### laws_toTerm: function 63 -/
def laws_toTerm.f (a0_0 : Int) (a0_1 : Int) : Option (Int × Int) := some (a0_0, a0_1)
set_option maxHeartbeats 8000000 in
set_option maxRecDepth 100000 in
theorem laws_toTerm.calls (a0_0 : Int) (a0_1 : Int) (r1 : Int) (r2 : Int) (w : World) (h : laws_toTerm.f a0_0 a0_1 = some (r1, r2)) :
  Calls Tryd.prog 63 #[.agg #[.int .i64 a0_0, .int .i64 a0_1]] w fun e w' => e = .returned (.agg #[.int .i64 r1, .int .i64 r2]) ∧ Below w.heap.size w w' := by
 have hu92 := Tryd.underlying92
 have hu84 := Tryd.underlying84
 have HB := Aside0.mk (Below.refl w.heap.size w)
 have H : (some (a0_0, a0_1)) = some (r1, r2) := h
 clear h
 simp only [Option.some.injEq, Prod.mk.injEq] at H
 obtain ⟨rfl, rfl⟩ := H
 go_enter Tryd.func63, Tryd.ntmps63
 go_wp2_with (first | ((with_reducible refine gate_dst (N := 1) rfl ?_); refine boxS (N := 1) (cs := #[.int .i64 a0_0, .int .i64 a0_1]) (t := 92) ?_; intro gb263 hg w2 hbox hb; have n0_ := Aside0.mk (below_step (bW) hb); have n1_ := Aside0.mk (hbox); have n2_ := geW (w := w) hg; have n3_ := geW (w := w) hg; clear HB; have HB := n0_; have BK263 := n1_; have GW263 := n2_; have GE263 := n3_; clear n0_ n1_ n2_ n3_; clear hb hbox hg) | ((with_reducible refine gate_dst (N := 2) rfl ?_); refine boxS (N := 2) (cs := #[.int .i64 0, .int .i64 0]) (t := 84) ?_; intro gb264 hg w3 hbox hb; have n0_ := Aside0.mk (blkB BK263.out hb); have n1_ := Aside0.mk (below_step (bW) hb); have n2_ := Aside0.mk (hbox); have n3_ := geW (w := w) hg; have n4_ := geW (w := w) hg; have n5_ := Aside0.mk ((by rw [hg]; exact Nat.ne_of_lt (blk_lt (g := gb263) (o := .cells #[.int .i64 a0_0, .int .i64 a0_1] 92 (0, 0)) (bP BK263.out)) : gb263 ≠ gb264)); have n6_ := Aside0.mk ((by rw [hg]; exact Nat.ne_of_gt (blk_lt (g := gb263) (o := .cells #[.int .i64 a0_0, .int .i64 a0_1] 92 (0, 0)) (bP BK263.out)) : gb264 ≠ gb263)); clear BK263; clear HB; have BK263 := n0_; have HB := n1_; have BK264 := n2_; have GW264 := n3_; have GE264 := n4_; have NB263_264 := n5_; have NB264_263 := n6_; clear n0_ n1_ n2_ n3_ n4_ n5_ n6_; clear hb hbox hg) | ((with_reducible refine gate_dst (N := 3) rfl ?_); refine boxS (N := 3) (cs := #[.int .i64 0, .int .i64 0]) (t := 84) ?_; intro gb265 hg w4 hbox hb; have n0_ := Aside0.mk (blkB BK263.out hb); have n1_ := Aside0.mk (blkB BK264.out hb); have n2_ := Aside0.mk (below_step (bW) hb); have n3_ := Aside0.mk (hbox); have n4_ := geW (w := w) hg; have n5_ := geW (w := w) hg; have n6_ := Aside0.mk ((by rw [hg]; exact Nat.ne_of_lt (blk_lt (g := gb263) (o := .cells #[.int .i64 a0_0, .int .i64 a0_1] 92 (0, 0)) (bP BK263.out)) : gb263 ≠ gb265)); have n7_ := Aside0.mk ((by rw [hg]; exact Nat.ne_of_gt (blk_lt (g := gb263) (o := .cells #[.int .i64 a0_0, .int .i64 a0_1] 92 (0, 0)) (bP BK263.out)) : gb265 ≠ gb263)); have n8_ := Aside0.mk ((by rw [hg]; exact Nat.ne_of_lt (blk_lt (g := gb264) (o := .cells #[.int .i64 0, .int .i64 0] 84 (0, 0)) (bP BK264.out)) : gb264 ≠ gb265)); have n9_ := Aside0.mk ((by rw [hg]; exact Nat.ne_of_gt (blk_lt (g := gb264) (o := .cells #[.int .i64 0, .int .i64 0] 84 (0, 0)) (bP BK264.out)) : gb265 ≠ gb264)); clear BK263; clear BK264; clear HB; have BK263 := n0_; have BK264 := n1_; have HB := n2_; have BK265 := n3_; have GW265 := n4_; have GE265 := n5_; have NB263_265 := n6_; have NB265_263 := n7_; have NB264_265 := n8_; have NB265_264 := n9_; clear n0_ n1_ n2_ n3_ n4_ n5_ n6_ n7_ n8_ n9_; clear hb hbox hg; have hnb5 := NB263_264.out; have hnc5 := NB264_263.out; have hnb6 := NB263_265.out; have hnc6 := NB265_263.out; obtain ⟨hcz7_0, hcz7_1⟩ := cells2 BK263.out; obtain ⟨hfz7_0, hfz7_1⟩ := frz2 BK263.out; have hnb8 := NB265_264.out; have hnc8 := NB264_265.out; obtain ⟨hcz9_0, hcz9_1⟩ := cells2 BK265.out; obtain ⟨hfz9_0, hfz9_1⟩ := frz2 BK265.out; obtain ⟨hcz10_0, hcz10_1⟩ := cells2 BK264.out; obtain ⟨hfz10_0, hfz10_1⟩ := frz2 BK264.out))
 refine bodyPost_ret (results_cell_row rfl _ _ gb264 84 #[.int .i64 a0_0, .int .i64 a0_1] (0, 0) _ rfl (by (with_reducible repeat (first | refine blk_drewN ?_ _ | refine blk_drew ?_ | refine blk_alloc ?_ _)); refine blk_put (cs := #[.int .i64 a0_0, .int .i64 0]) ?_ 1 _ rfl; (with_reducible repeat (first | refine blk_drewN ?_ _ | refine blk_drew ?_ | refine blk_alloc ?_ _)); refine blk_put (cs := #[.int .i64 0, .int .i64 0]) ?_ 0 _ rfl; (with_reducible repeat (first | refine blk_drewN ?_ _ | refine blk_drew ?_ | refine blk_alloc ?_ _)); refine blk_far ?_ NB264_265.out _; (with_reducible repeat (first | refine blk_drewN ?_ _ | refine blk_drew ?_ | refine blk_alloc ?_ _)); refine blk_far ?_ NB264_265.out _; exact bP BK264.out) Tryd.underlying84 rfl (by kernel_rfl)) rfl ?_
 exact ⟨eW, bW⟩

end Go.Proofs.YthbaocejgjpfoaaDoor.P
end M0
section M1
namespace Go.Proofs.YthbaocejgjpfoaaDoor.P
open Go.RowKit Go.Proofs.YthbaocejgjpfoaaDoor.Sh Go.Proofs.YthbaocejgjpfoaaDoorW.PrintWords Go.Proofs.YthbaocejgjpfoaaDoorW.PrintLast Go.Proofs.YthbaocejgjpfoaaDoorW.PrintMore
attribute [local go_sem] max2_int min2_int max_two min_two max_three min_three max_four min_four   -- for this text's walks alone
set_option linter.unusedVariables false
set_option linter.unusedSimpArgs false

/-! ### laws_toTermS: function 22 -/
def laws_toTermS.l0 : Nat → List (S92) → List (S84) → Int → Option ((List (S84)))
 | 0, _, _, _ => none
 | k + 1, x0, x3, x4 => if x4 < (x0.length : Int) then (if 0 ≤ x4 then ((laws_toTerm.f ((rd_T92 x0 x4).f0) ((rd_T92 x0 x4).f1)).bind fun bt270 => (if x4 < (x3.length : Int) then (laws_toTermS.l0 k x0 (x3.set (x4 : Int).toNat (⟨bt270.1, bt270.2⟩ : S84)) (wrap64 (x4 + 1))) else (none))) else (none)) else (some x3)
def laws_toTermS.f (k : Nat) (l0 : List (S92)) : Option ((List (S84))) := if 0 ≤ (l0.length : Int) then (if ((l0.length : Int) : Int).toNat ≤ 17592186044416 then (laws_toTermS.l0 k l0 (List.replicate ((l0.length : Int) : Int).toNat z84) 0) else (none)) else (none)
theorem laws_toTermS.mono_l : ∀ k, (∀ y0 y1 y2, LeO (laws_toTermS.l0 k y0 y1 y2) (laws_toTermS.l0 (k + 1) y0 y1 y2))
 | 0 => fun _ _ _ r h => by simp [laws_toTermS.l0] at h
 | k + 1 => by
  have ih0 := laws_toTermS.mono_l k
  ·intro y0 y1 y2
   unfold laws_toTermS.l0
   repeat' first
   | (with_reducible exact ih0 _ _ _)
   | (with_reducible exact LeO.refl _)
   | (with_reducible exact LeO.none _)
   | (with_reducible refine LeO.ite ?_ ?_)
   | (with_reducible refine LeO.bind ?_ (fun _ => ?_))
   | exact ih0 _ _ _
   | exact LeO.none _
   | refine LeO.ite ?_ ?_
   | refine LeO.bind ?_ (fun _ => ?_)
theorem laws_toTermS.mono : ∀ a0 k, LeO (laws_toTermS.f k a0) (laws_toTermS.f (k + 1) a0) := by
 intro a0 k
 have ih0 := laws_toTermS.mono_l k
 unfold laws_toTermS.f
 repeat' first
   | (with_reducible exact ih0 _ _ _)
   | (with_reducible exact LeO.refl _)
   | (with_reducible exact LeO.none _)
   | (with_reducible refine LeO.ite ?_ ?_)
   | (with_reducible refine LeO.bind ?_ (fun _ => ?_))
   | exact ih0 _ _ _
   | exact LeO.none _
   | refine LeO.ite ?_ ?_
   | refine LeO.bind ?_ (fun _ => ?_)
set_option maxHeartbeats 8000000 in
set_option maxRecDepth 100000 in
theorem laws_toTermS.calls (k : Nat) (A0 : Option Addr) (c0 : Nat) (l0 : List (S92)) (r : List (S84)) (w : World) (hr0 : Kd.C k92 w A0 l0.length l0) (hc0 : l0.length ≤ c0) (h : laws_toTermS.f k l0 = some r) :
  Calls Tryd.prog 22 #[.slice A0 l0.length c0] w fun e w' => ∃ v0_ : Value, e = .returned (v0_) ∧ Kd.R k84 84 w' w.heap.size (fun _ => True) v0_ r ∧ Below w.heap.size w w' := by
 have hu92 := Tryd.underlying92
 have hu84 := Tryd.underlying84
 have HR0 := Aside0.mk hr0
 have HC0 := Aside0.mk hc0
 clear hr0 hc0
 have HB := Aside0.mk (Below.refl w.heap.size w)
 have H : (if 0 ≤ (l0.length : Int) then (if ((l0.length : Int) : Int).toNat ≤ 17592186044416 then (laws_toTermS.l0 k l0 (List.replicate ((l0.length : Int) : Int).toNat z84) 0) else (none)) else (none)) = some r := h
 clear h
 by_cases c2 : 0 ≤ (l0.length : Int)
 ·rw [if_pos c2] at H
  have c2b0 := eq_true c2
  have c2b1 : decide (0 ≤ (l0.length : Int)) = true := decide_eq_true c2
  clear c2
  by_cases c3 : ((l0.length : Int) : Int).toNat ≤ 17592186044416
  ·rw [if_pos c3] at H
   have c3b0 := eq_true c3
   have c3b1 : decide (((l0.length : Int) : Int).toNat ≤ 17592186044416) = true := decide_eq_true c3
   clear c3
   obtain ⟨y266, hy266⟩ : ∃ y_ : List (S84), y_ = (List.replicate ((l0.length : Int) : Int).toNat z84) := ⟨_, rfl⟩
   replace H : (laws_toTermS.l0 k l0 y266 0) = some r := by first | (rw [hy266]; with_reducible exact H) | (have H2_ := (Option.bind_some _ _).symm.trans H; rw [hy266]; with_reducible exact H2_) | (have H2_ := (Option.bind_some _ _).symm.trans H; with_reducible exact H2_) | with_reducible exact H | (rw [hy266]; exact H) | exact H
   have Ny266 := Aside0.mk hy266
   clear hy266
   have H' := Aside0.mk H
   clear H
   go_enter Tryd.func22, Tryd.ntmps22
   go_wp2_with (first | ((with_reducible refine gate_dst (N := 7) rfl ?_); refine Kd.R_make k84 _ 84 rfl (N := 7) rfl 39 _ _ rfl (l0.length : Int) rfl rfl Tryd.underlying39 (.agg #[(.int .i64 0), (.int .i64 0)]) 16 info84 rfl (by decide) (by omega) z84 (ok := fun _ => True) (okp := fun _ => True) (k84_mkM _ _ _ z84 ) (fun _ hk => hk) trivial (ofD) (Nat.le_trans (Nat.mul_le_mul_right _ (ofD : (l0.length : Int).toNat ≤ 17592186044416)) (by omega)) (Below.refl _ _) (Nat.le_refl _) ?_; intro v267 w4 ho5 hb hg_ hnew_; clear hg_ hnew_; (first | rw [← Ny266.out] at ho5 | (simp only [Int.reduceToNat] at ho5; rw [← Ny266.out] at ho5)); have n0_ := Aside0.mk (Kd.R_lower ho5 (below_size (bW))); have n1_ := Aside0.mk (below_step (bW) hb); clear HB; have HO268 := n0_; have HB := n1_; clear n0_ n1_; clear hb ho5))
   go_loopg [4] k (fun kq v4 w' => ∃ (x3_1 : List (S84)) (x4_1 : Int), v4 = .int .i64 x4_1 ∧ Aside0 (laws_toTermS.l0 kq l0 x3_1 x4_1 = some r) ∧ Aside0 (kq ≤ k) ∧ Aside0 (Kd.R k84 84 w' w.heap.size (fun _ => True) v267 x3_1) ∧ Aside0 (Below w.heap.size w w'))
   case atStart => exact ⟨(y266), (0), (eW), H', ⟨Nat.le_refl _⟩, ⟨(rP HO268.out)⟩, ⟨bW⟩⟩
   case round =>
    clear H'
    try clear c2
    try clear c2b0
    try clear c2b1
    try clear p2
    try clear c3
    try clear c3b0
    try clear c3b1
    obtain ⟨x3_1, x4_1, rfl, HA, HK1, HO_3, HB⟩ := hrel
    cases gk with
    | zero => exact absurd HA.out (by simp [laws_toTermS.l0])
    | succ k1 =>
     have H := HA.out
     clear HA
     simp only [laws_toTermS.l0] at H
     by_cases c6 : x4_1 < (l0.length : Int)
     ·rw [if_pos c6] at H
      have c6b0 : decide (x4_1 < (l0.length : Int)) = true := decide_eq_true c6
      clear c6
      by_cases c7 : 0 ≤ x4_1
      ·rw [if_pos c7] at H
       have c7b0 : decide (0 ≤ x4_1) = true := decide_eq_true c7
       clear c7
       replace H := Option.bind_eq_some_iff.mp H
       obtain ⟨⟨t270, t271⟩, A80, H⟩ := H
       replace H : (if x4_1 < (x3_1.length : Int) then (laws_toTermS.l0 k1 l0 (x3_1.set (x4_1 : Int).toNat (⟨t270, t271⟩ : S84)) (wrap64 (x4_1 + 1))) else (none)) = some r := H
       have A8 := Aside0.mk A80
       clear A80
       by_cases c9 : x4_1 < (x3_1.length : Int)
       ·rw [if_pos c9] at H
        have c9b0 : decide (x4_1 < (x3_1.length : Int)) = true := decide_eq_true c9
        clear c9
        obtain ⟨y272, hy272⟩ : ∃ y_ : List (S84), y_ = (x3_1.set (x4_1 : Int).toNat (⟨t270, t271⟩ : S84)) := ⟨_, rfl⟩
        replace H : (laws_toTermS.l0 k1 l0 y272 (wrap64 (x4_1 + 1))) = some r := by first | (rw [hy272]; with_reducible exact H) | (have H2_ := (Option.bind_some _ _).symm.trans H; rw [hy272]; with_reducible exact H2_) | (have H2_ := (Option.bind_some _ _).symm.trans H; with_reducible exact H2_) | with_reducible exact H | (rw [hy272]; exact H) | exact H
        have Ny272 := Aside0.mk hy272
        clear hy272
        have H' := Aside0.mk H
        clear H
        have p269 : 0 ≤ (x4_1 : Int) := ofD
        have q269 : x4_1 < (l0.length : Int) := ofD
        obtain ⟨ad269, e269, hx269_0, hx269_1⟩ := at_T92 HR0.out x4_1 p269 q269
        cases e269
        replace hx269_0 := (HB.out.cell (World.block_lt_of_cell? w _ hx269_0)).trans hx269_0
        replace hx269_1 := (HB.out.cell (World.block_lt_of_cell? w _ hx269_1)).trans hx269_1
        replace p269 := eq_true p269
        replace q269 := eq_true q269
        go_wp2_with (first | ((with_reducible refine gate_callee (f := 63) rfl ?_); refine goesS (some 20) Tryd.func63 #[.agg #[.int .i64 ((rd_T92 l0 x4_1).f0), .int .i64 ((rd_T92 l0 x4_1).f1)]] ?_; (with_reducible refine (laws_toTerm.calls ((rd_T92 l0 x4_1).f0) ((rd_T92 l0 x4_1).f1) t270 t271 _ A8.out).mono ?_); rintro e w11 ⟨rfl, hb⟩; refine ⟨_, rfl, ?_⟩; have n0_ := Aside0.mk (Kd.R_below (rP HO_3.out) hb); have n1_ := Aside0.mk (below_step (bW) hb); clear HO_3; clear HB; have HO_3 := n0_; have HB := n1_; clear n0_ n1_; (try clear hb); (try clear hb2); (try clear hk); (try clear hi); have p10 : 0 ≤ (x4_1 : Int) := ofD; have q10 : (x4_1 : Int) < ((x3_1.length : Int) : Int) := ofD; obtain ⟨go10, co10, eo10, gb10, gl10, cl10, HG10⟩ := Kd.R_form HO_3.out (by omega); (first | cases eo10 | (injection eo10 with ea_ en_ ec_; (first | subst ea_ | (injection ea_ with ea_; subst ea_)); subst ec_; clear en_)); have GB10 := Aside0.mk gb10; have GG10 := Aside0.mk HG10; clear gb10 gl10 HG10; obtain ⟨ce10, hcl10, hM10, hcc10, hfr10⟩ := Kd.R_elem HO_3.out z84 (x4_1 : Int) p10 q10; obtain rfl := k84_openM hM10; have hx10_0 : w11.cell? ⟨go10, (x4_1 : Int).toNat * 2, none⟩ = some (.int .i64 ((rd_T84 x3_1 x4_1).f0)) := hcc10 0 _ rfl; have hx10_1 : w11.cell? ⟨go10, (x4_1 : Int).toNat * 2 + 1, none⟩ = some (.int .i64 ((rd_T84 x3_1 x4_1).f1)) := hcc10 1 _ rfl; have hf10_0 : w11.frozen? ⟨go10, (x4_1 : Int).toNat * 2, none⟩ = false := hfr10 0; have hf10_1 : w11.frozen? ⟨go10, (x4_1 : Int).toNat * 2 + 1, none⟩ = false := hfr10 1; clear hcl10 hcc10 hfr10; (try clear hM10); replace p10 := eq_true p10; replace q10 := eq_true q10; have HX12 := Aside0.mk (show Kd.R k84 84 w11 w.heap.size (fun _ => True) (.slice (some ⟨go10, 0, none⟩) x3_1.length co10) x3_1 from (rP HO_3.out)); obtain ⟨ce12, hcl12, hM12, hcc12, hfr12⟩ := Kd.R_elem HX12.out z84 (x4_1 : Int) (ofD) (by have h_ : (x4_1 : Int) < ((x3_1.length : Int) : Int) := ofD; first | exact h_ | (have e_ := (Kd.R_reads' HO_3.out).1; omega) | simpa using h_); obtain rfl := k84_openM hM12; have HP12 := Kd.R_seg HX12.out (x4_1 : Int) (ofD) (by have h_ : (x4_1 : Int) < ((x3_1.length : Int) : Int) := ofD; first | exact h_ | (have e_ := (Kd.R_reads' HO_3.out).1; omega) | simpa using h_) (seg := [.int .i64 t270, .int .i64 t271]) (j := 0) hcl12 hcc12 (show 2 ≤ 2 from by decide) (x' := (⟨t270, t271⟩ : S84)) (k84_mkM _ _ _ (⟨t270, t271⟩ : S84) ) (fun _ hk => hk); have hx12_0 := hcc12 0 _ rfl; (try simp only [show (k84).sz = 2 from rfl, Nat.mul_one, Nat.add_zero] at hx12_0); have hf12_0 := hfr12 0; (try simp only [show (k84).sz = 2 from rfl, Nat.mul_one, Nat.add_zero] at hf12_0); have hx12_1 := hcc12 1 _ rfl; (try simp only [show (k84).sz = 2 from rfl, Nat.mul_one, Nat.add_zero] at hx12_1); have hf12_1 := hfr12 1; (try simp only [show (k84).sz = 2 from rfl, Nat.mul_one, Nat.add_zero] at hf12_1); clear hcl12 hcc12 hfr12; (try clear hM12)) | ((with_reducible refine gate_store (t := 84) (p := 21) rfl ?_); refine storeS (t := 84) (p := 21) (w1 := ((w11.setCell ⟨go10, (x4_1 : Int).toNat * 2, none⟩ (.int .i64 t270)).setCell ⟨go10, (x4_1 : Int).toNat * 2 + 1, none⟩ (.int .i64 t271))) ?_; intro w13 hw; have hg : w11.grownBy w13 (some go10) := (by rw [hw]; exact HP12.2); have hp_ : Kd.R k84 84 w13 w.heap.size (fun _ => True) (.slice (some ⟨go10, 0, none⟩) x3_1.length co10) y272 := (by rw [hw, Ny272.out]; exact HP12.1); clear HP12; have n0_ := Aside0.mk (hp_); have n1_ := Aside0.mk ((by rw [hw]; exact below_set (below_set (HB.out) GB10.out) GB10.out : Below w.heap.size w w13)); clear HO_3; clear HB; have HO_3 := n0_; have HB := n1_; clear n0_ n1_; clear hg hw hp_))
        go_roundg k1
        case measure => have := HK1.out; omega
        case rel => exact ⟨(y272), (wrap64 (x4_1 + 1)), (eW), H', ⟨by have := HK1.out; omega⟩, ⟨(rP HO_3.out)⟩, ⟨bW⟩⟩
       ·rw [if_neg c9] at H
        exact absurd H (by simp)
      ·rw [if_neg c7] at H
       exact absurd H (by simp)
     ·rw [if_neg c6] at H
      have c6b0 : decide (x4_1 < (l0.length : Int)) = false := decide_eq_false c6
      clear c6
      obtain rfl := Option.some.inj H
      go_wp2
      go_ret
      exact ⟨_, eW, (rP HO_3.out), bW⟩
  ·rw [if_neg c3] at H
   exact absurd H (by simp)
 ·rw [if_neg c2] at H
  exact absurd H (by simp)

/-! ### impl_isLetter: function 145 -/
def impl_isLetter.f (a0_0 : Int) (l0_1 : List Int) (a1 : Int) : Option (Bool) := (impl_inRange.f a1 0 (wrap64 (a0_0 - 1))).bind fun t274 => (some t274)
set_option maxHeartbeats 8000000 in
set_option maxRecDepth 100000 in
theorem impl_isLetter.calls (a0_0 : Int) (A0_1 : Option Addr) (c0_1 : Nat) (l0_1 : List Int) (a1 : Int) (r : Bool) (w : World) (hr0_1 : Kd.C (Kd.int .i64) w A0_1 l0_1.length l0_1) (hc0_1 : l0_1.length ≤ c0_1) (h : impl_isLetter.f a0_0 l0_1 a1 = some r) :
  Calls Tryd.prog 145 #[.agg #[.int .i64 a0_0, .slice A0_1 l0_1.length c0_1], .int .i64 a1] w fun e w' => e = .returned (.bool r) ∧ Below w.heap.size w w' := by
 have hu29 := Tryd.underlying29
 have HR0_1 := Aside0.mk hr0_1
 have HC0_1 := Aside0.mk hc0_1
 clear hr0_1 hc0_1
 have HB := Aside0.mk (Below.refl w.heap.size w)
 have H : ((impl_inRange.f a1 0 (wrap64 (a0_0 - 1))).bind fun t274 => (some t274)) = some r := h
 clear h
 replace H := Option.bind_eq_some_iff.mp H
 obtain ⟨t274, A30, H⟩ := H
 replace H : (some t274) = some r := H
 have A3 := Aside0.mk A30
 clear A30
 obtain rfl := Option.some.inj H
 go_enter Tryd.func145, Tryd.ntmps145
 go_wp2_with (first | ((with_reducible refine gate_dst (N := 2) rfl ?_); refine boxS (N := 2) (cs := #[.int .i64 a0_0, .slice A0_1 l0_1.length c0_1]) (t := 29) ?_; intro gb273 hg w4 hbox hb; have n0_ := Aside0.mk (below_step (bW) hb); have n1_ := Aside0.mk (hbox); have n2_ := geW (w := w) hg; have n3_ := geW (w := w) hg; clear HB; have HB := n0_; have BK273 := n1_; have GW273 := n2_; have GE273 := n3_; clear n0_ n1_ n2_ n3_; clear hb hbox hg; obtain ⟨hcz5_0, hcz5_1⟩ := cells2 BK273.out; obtain ⟨hfz5_0, hfz5_1⟩ := frz2 BK273.out) | ((with_reducible refine gate_callee (f := 109) rfl ?_); refine goesS (some 9) Tryd.func109 #[.int .i64 a1, .int .i64 0, .int .i64 (wrap64 (a0_0 - 1))] ?_; (with_reducible refine (impl_inRange.calls a1 0 (wrap64 (a0_0 - 1)) t274 _ A3.out).mono ?_); rintro e w' ⟨rfl, ⟨nd, rfl⟩⟩; refine ⟨_, rfl, ?_⟩))
 go_ret
 exact ⟨eW, bW⟩

/-! ### impl_partsIn: function 146 -/
def impl_partsIn.f (a0 : Int) : Option (Int) := if a0 = 5 then (some 1) else (if a0 = 3 then (some 2) else (if a0 = 4 then (some 2) else (some 0)))
set_option maxHeartbeats 8000000 in
set_option maxRecDepth 100000 in
theorem impl_partsIn.calls (a0 : Int) (r : Int) (w : World) (h : impl_partsIn.f a0 = some r) :
  Calls Tryd.prog 146 #[.int .i64 a0] w fun e w' => e = .returned (.int .i64 r) ∧ Drawn0 w w' := by
 have H : (if a0 = 5 then (some 1) else (if a0 = 3 then (some 2) else (if a0 = 4 then (some 2) else (some 0)))) = some r := h
 clear h
 by_cases c2 : a0 = 5
 ·rw [if_pos c2] at H
  have c2b0 : (a0 == 5) = true := beq_iff_eq.mpr c2
  have c2b1 : (a0 != 5) = false := bne_eq_false_iff_eq.mpr c2
  clear c2
  obtain rfl := Option.some.inj H
  go_enter Tryd.func146, Tryd.ntmps146
  go_wp2
  go_ret
  exact ⟨eW, by repeat (first | exact Drawn0.refl _ | apply Drawn0.step)⟩
 ·rw [if_neg c2] at H
  have c2b0 : (a0 == 5) = false := beq_eq_false_iff_ne.mpr c2
  have c2b1 : (a0 != 5) = true := bne_iff_ne.mpr c2
  by_cases c3 : a0 = 3
  ·rw [if_pos c3] at H
   have c3b0 : (a0 == 3) = true := beq_iff_eq.mpr c3
   have c3b1 : (a0 != 3) = false := bne_eq_false_iff_eq.mpr c3
   clear c3
   obtain rfl := Option.some.inj H
   go_enter Tryd.func146, Tryd.ntmps146
   go_wp2
   go_ret
   exact ⟨eW, by repeat (first | exact Drawn0.refl _ | apply Drawn0.step)⟩
  ·rw [if_neg c3] at H
   have c3b0 : (a0 == 3) = false := beq_eq_false_iff_ne.mpr c3
   have c3b1 : (a0 != 3) = true := bne_iff_ne.mpr c3
   by_cases c4 : a0 = 4
   ·rw [if_pos c4] at H
    have c4b0 : (a0 == 4) = true := beq_iff_eq.mpr c4
    have c4b1 : (a0 != 4) = false := bne_eq_false_iff_eq.mpr c4
    clear c4
    obtain rfl := Option.some.inj H
    go_enter Tryd.func146, Tryd.ntmps146
    go_wp2
    go_ret
    exact ⟨eW, by repeat (first | exact Drawn0.refl _ | apply Drawn0.step)⟩
   ·rw [if_neg c4] at H
    have c4b0 : (a0 == 4) = false := beq_eq_false_iff_ne.mpr c4
    have c4b1 : (a0 != 4) = true := bne_iff_ne.mpr c4
    obtain rfl := Option.some.inj H
    go_enter Tryd.func146, Tryd.ntmps146
    go_wp2
    go_ret
    exact ⟨eW, by repeat (first | exact Drawn0.refl _ | apply Drawn0.step)⟩

end Go.Proofs.YthbaocejgjpfoaaDoor.P
end M1
