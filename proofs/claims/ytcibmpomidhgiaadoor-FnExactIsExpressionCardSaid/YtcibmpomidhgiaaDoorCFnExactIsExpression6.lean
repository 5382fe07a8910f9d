import Derived.ArgAppend
import Derived.Below
import Derived.BigQuiet
import Derived.ChangeSame
import Derived.ChangeShapes
import Derived.Deep.AppendLies
import Derived.Deep.CutBlock
import Derived.Deep.DeepCutAuto
import Derived.Deep.Draws
import Derived.Deep.LoopGhost
import Derived.Deep.OwnRows
import Derived.Deep.QuietTactic
import Derived.Deep.RegionHeld3
import Derived.Deep.Slices
import Derived.Deep.Strs
import Derived.KernelRfl
import Derived.Laws.BitsLemmas
import Derived.Laws.BytesArg
import Derived.Laws.IdiomCopy
import Derived.Laws.MakeOwn
import Derived.Laws.OwnMore
import Derived.Laws.Rows
import Derived.Laws.Slices
import Derived.Laws.StructEq
import Derived.Lib.AppendStr
import Derived.Lib.ConvBytes
import Derived.Lib.SliceRun
import Derived.Lib.SmallJoins
import Derived.Maps.AppendAt
import Derived.OrdersHeld
import Derived.OwnWalk
import Derived.RowKit
import Derived.RowKit3
import Derived.Shelf.Abstract
import Derived.Shelf.Spec.TrailingZeros
import Derived.Tactics
import Derived.Test.YtcibmpomidhgiaaDoorChecked
import Derived.Test.YtcibmpomidhgiaaDoorProg
import Derived.WalkKit
import Derived.WideLaws
import Derived.Test.YtcibmpomidhgiaaDoorCFnExactIsExpression0
import Derived.Test.YtcibmpomidhgiaaDoorCFnExactIsExpression1
import Derived.Test.YtcibmpomidhgiaaDoorCFnExactIsExpression2
import Derived.Test.YtcibmpomidhgiaaDoorCFnExactIsExpression3
import Derived.Test.YtcibmpomidhgiaaDoorCFnExactIsExpression4
import Derived.Test.YtcibmpomidhgiaaDoorCFnExactIsExpression5
section M0
namespace Go.Proofs.YtcibmpomidhgiaaDoor.P
open Go.RowKit Go.Proofs.YtcibmpomidhgiaaDoor.Sh Go.Proofs.YtcibmpomidhgiaaDoorW.PrintWords Go.Proofs.YtcibmpomidhgiaaDoorW.PrintLast Go.Proofs.YtcibmpomidhgiaaDoorW.PrintMore
attribute [local go_sem] max2_int min2_int max_two min_two max_three min_three max_four min_four   -- for this text's walks alone
set_option linter.unusedVariables false
set_option linter.unusedSimpArgs false

/-! ### impl_IsExpression: function 9 -/
def impl_IsExpression.f (k : Nat) (a0_0 : Int) (l0_1 : List Int) (l1 : List (S39)) : Option (Bool) := (impl_IsAlphabet.f k a0_0 l0_1).bind fun t196 => (if t196 = true then (if (l1.length : Int) ≥ 1 then (if (l1.length : Int) ≤ 24 then ((impl_termEnd.f k a0_0 l0_1 l1 0).bind fun t197 => (some (t197 == (l1.length : Int)))) else (some false)) else (some false)) else (some false))
theorem impl_IsExpression.mono : ∀ a0 a1 a2 k, LeO (impl_IsExpression.f k a0 a1 a2) (impl_IsExpression.f (k + 1) a0 a1 a2) := by
 intro a0 a1 a2 k
 unfold impl_IsExpression.f
 repeat' first
   | (with_reducible exact impl_IsAlphabet.mono _ _ _)
   | (with_reducible exact impl_termEnd.mono _ _ _ _ _)
   | (with_reducible exact LeO.refl _)
   | (with_reducible exact LeO.none _)
   | (with_reducible refine LeO.ite ?_ ?_)
   | (with_reducible refine LeO.bind ?_ (fun _ => ?_))
   | exact impl_IsAlphabet.mono _ _ _
   | exact impl_termEnd.mono _ _ _ _ _
   | exact LeO.none _
   | refine LeO.ite ?_ ?_
   | refine LeO.bind ?_ (fun _ => ?_)
set_option maxHeartbeats 8000000 in
set_option maxRecDepth 100000 in
theorem impl_IsExpression.calls (k : Nat) (a0_0 : Int) (A0_1 : Option Addr) (c0_1 : Nat) (l0_1 : List Int) (A1 : Option Addr) (c1 : Nat) (l1 : List (S39)) (r : Bool) (w : World) (hr0_1 : Kd.C (Kd.int .i64) w A0_1 l0_1.length l0_1) (hc0_1 : l0_1.length ≤ c0_1) (hr1 : Kd.C k39 w A1 l1.length l1) (hc1 : l1.length ≤ c1) (h : impl_IsExpression.f k a0_0 l0_1 l1 = some r) (hTab : Tab w) :
  Calls Tryd.prog 9 #[.agg #[.int .i64 a0_0, .slice A0_1 l0_1.length c0_1], .slice A1 l1.length c1] w fun e w' => e = .returned (.bool r) ∧ Below w.heap.size w w' := by
 have HTab := Aside0.mk hTab
 clear hTab
 have hu29 := Tryd.underlying29
 have HR0_1 := Aside0.mk hr0_1
 have HC0_1 := Aside0.mk hc0_1
 clear hr0_1 hc0_1
 have HR1 := Aside0.mk hr1
 have HC1 := Aside0.mk hc1
 clear hr1 hc1
 have HB := Aside0.mk (Below.refl w.heap.size w)
 have H : ((impl_IsAlphabet.f k a0_0 l0_1).bind fun t196 => (if t196 = true then (if (l1.length : Int) ≥ 1 then (if (l1.length : Int) ≤ 24 then ((impl_termEnd.f k a0_0 l0_1 l1 0).bind fun t197 => (some (t197 == (l1.length : Int)))) else (some false)) else (some false)) else (some false))) = some r := h
 clear h
 replace H := Option.bind_eq_some_iff.mp H
 obtain ⟨t196, A30, H⟩ := H
 replace H : (if t196 = true then (if (l1.length : Int) ≥ 1 then (if (l1.length : Int) ≤ 24 then ((impl_termEnd.f k a0_0 l0_1 l1 0).bind fun t197 => (some (t197 == (l1.length : Int)))) else (some false)) else (some false)) else (some false)) = some r := H
 have A3 := Aside0.mk A30
 clear A30
 by_cases c4 : t196 = true
 ·subst c4
  have H1 : (if (l1.length : Int) ≥ 1 then (if (l1.length : Int) ≤ 24 then ((impl_termEnd.f k a0_0 l0_1 l1 0).bind fun t197 => (some (t197 == (l1.length : Int)))) else (some false)) else (some false)) = some r := by rw [if_pos rfl] at H; exact H
  clear H
  have H := H1
  clear H1
  by_cases c5 : (l1.length : Int) ≥ 1
  ·rw [if_pos c5] at H
   have c5b0 : decide (1 ≤ (l1.length : Int)) = true := decide_eq_true c5
   have c5b1 : decide (1 ≤ l1.length) = true := decide_eq_true (by omega)
   clear c5
   by_cases c6 : (l1.length : Int) ≤ 24
   ·rw [if_pos c6] at H
    have c6b0 : decide ((l1.length : Int) ≤ 24) = true := decide_eq_true c6
    have c6b1 : decide (l1.length ≤ 24) = true := decide_eq_true (by omega)
    clear c6
    replace H := Option.bind_eq_some_iff.mp H
    obtain ⟨t197, A70, H⟩ := H
    replace H : (some (t197 == (l1.length : Int))) = some r := H
    have A7 := Aside0.mk A70
    clear A70
    obtain rfl := Option.some.inj H
    go_enter Tryd.func9, Tryd.ntmps9
    go_wp2_with (first | ((with_reducible refine gate_dst (N := 2) rfl ?_); (try (refine gate_guard (by rfl) ?_; dsimp only)); refine boxS (N := 2) (cs := #[.int .i64 a0_0, .slice A0_1 l0_1.length c0_1]) (t := 29) ?_; intro gb195 hg w8 hbox hb; have n0_ := Aside0.mk (below_step (bW) hb); have n1_ := Aside0.mk (hbox); have n2_ := geW (w := w) hg; have n3_ := geW (w := w) hg; clear HB; have HB := n0_; have BK195 := n1_; have GW195 := n2_; have GE195 := n3_; clear n0_ n1_ n2_ n3_; clear hb hbox hg; obtain ⟨hcz9_0, hcz9_1⟩ := cells2 BK195.out; obtain ⟨hfz9_0, hfz9_1⟩ := frz2 BK195.out) | ((with_reducible refine gate_callee (f := 18) rfl ?_); refine goesS (some 6) Tryd.func18 #[.agg #[.int .i64 a0_0, .slice A0_1 l0_1.length c0_1]] ?_; (with_reducible refine (impl_IsAlphabet.calls k a0_0 _ _ l0_1 true _ ?side1 ?side2 A3.out (tabW HTab.out)).mono ?_); (case side1 => exact cP (Kd.C_below HR0_1.out HB.out)); (case side2 => exact HC0_1.out); rintro e w10 ⟨rfl, hb⟩; refine ⟨_, rfl, ?_⟩; have n0_ := Aside0.mk (blkB BK195.out hb); have n1_ := Aside0.mk (below_step (bW) hb); clear BK195; clear HB; have BK195 := n0_; have HB := n1_; clear n0_ n1_; (try clear hb); (try clear hb2); (try clear hk); (try clear hi); obtain ⟨hcz11_0, hcz11_1⟩ := cells2 BK195.out; obtain ⟨hfz11_0, hfz11_1⟩ := frz2 BK195.out) | (go_at_call 19; (with_reducible refine (impl_termEnd.calls k a0_0 _ _ l0_1 _ _ l1 0 t197 _ ?side1 ?side2 ?side3 ?side4 A7.out).mono ?_); (case side1 => exact cP (Kd.C_below HR0_1.out HB.out)); (case side2 => exact HC0_1.out); (case side3 => exact cP (Kd.C_below HR1.out HB.out)); (case side4 => exact HC1.out); rintro e w12 ⟨rfl, hb⟩; have n0_ := Aside0.mk (blkB BK195.out hb); have n1_ := Aside0.mk (below_step (bW) hb); clear BK195; clear HB; have BK195 := n0_; have HB := n1_; clear n0_ n1_; (try clear hb); (try clear hb2); (try clear hk); (try clear hi)))
    go_ret
    exact ⟨eW, bW⟩
   ·rw [if_neg c6] at H
    have c6b0 : decide ((l1.length : Int) ≤ 24) = false := decide_eq_false c6
    have c6b1 : decide (l1.length ≤ 24) = false := decide_eq_false (by omega)
    clear c6
    obtain rfl := Option.some.inj H
    go_enter Tryd.func9, Tryd.ntmps9
    go_wp2_with (first | ((with_reducible refine gate_dst (N := 2) rfl ?_); (try (refine gate_guard (by rfl) ?_; dsimp only)); refine boxS (N := 2) (cs := #[.int .i64 a0_0, .slice A0_1 l0_1.length c0_1]) (t := 29) ?_; intro gb195 hg w13 hbox hb; have n0_ := Aside0.mk (below_step (bW) hb); have n1_ := Aside0.mk (hbox); have n2_ := geW (w := w) hg; have n3_ := geW (w := w) hg; clear HB; have HB := n0_; have BK195 := n1_; have GW195 := n2_; have GE195 := n3_; clear n0_ n1_ n2_ n3_; clear hb hbox hg; obtain ⟨hcz14_0, hcz14_1⟩ := cells2 BK195.out; obtain ⟨hfz14_0, hfz14_1⟩ := frz2 BK195.out) | ((with_reducible refine gate_callee (f := 18) rfl ?_); refine goesS (some 6) Tryd.func18 #[.agg #[.int .i64 a0_0, .slice A0_1 l0_1.length c0_1]] ?_; (with_reducible refine (impl_IsAlphabet.calls k a0_0 _ _ l0_1 true _ ?side1 ?side2 A3.out (tabW HTab.out)).mono ?_); (case side1 => exact cP (Kd.C_below HR0_1.out HB.out)); (case side2 => exact HC0_1.out); rintro e w15 ⟨rfl, hb⟩; refine ⟨_, rfl, ?_⟩; have n0_ := Aside0.mk (blkB BK195.out hb); have n1_ := Aside0.mk (below_step (bW) hb); clear BK195; clear HB; have BK195 := n0_; have HB := n1_; clear n0_ n1_; (try clear hb); (try clear hb2); (try clear hk); (try clear hi)))
    go_ret
    exact ⟨eW, bW⟩
  ·rw [if_neg c5] at H
   have c5b0 : decide (1 ≤ (l1.length : Int)) = false := decide_eq_false c5
   have c5b1 : decide (1 ≤ l1.length) = false := decide_eq_false (by omega)
   clear c5
   obtain rfl := Option.some.inj H
   go_enter Tryd.func9, Tryd.ntmps9
   go_wp2_with (first | ((with_reducible refine gate_dst (N := 2) rfl ?_); (try (refine gate_guard (by rfl) ?_; dsimp only)); refine boxS (N := 2) (cs := #[.int .i64 a0_0, .slice A0_1 l0_1.length c0_1]) (t := 29) ?_; intro gb195 hg w16 hbox hb; have n0_ := Aside0.mk (below_step (bW) hb); have n1_ := Aside0.mk (hbox); have n2_ := geW (w := w) hg; have n3_ := geW (w := w) hg; clear HB; have HB := n0_; have BK195 := n1_; have GW195 := n2_; have GE195 := n3_; clear n0_ n1_ n2_ n3_; clear hb hbox hg; obtain ⟨hcz17_0, hcz17_1⟩ := cells2 BK195.out; obtain ⟨hfz17_0, hfz17_1⟩ := frz2 BK195.out) | ((with_reducible refine gate_callee (f := 18) rfl ?_); refine goesS (some 6) Tryd.func18 #[.agg #[.int .i64 a0_0, .slice A0_1 l0_1.length c0_1]] ?_; (with_reducible refine (impl_IsAlphabet.calls k a0_0 _ _ l0_1 true _ ?side1 ?side2 A3.out (tabW HTab.out)).mono ?_); (case side1 => exact cP (Kd.C_below HR0_1.out HB.out)); (case side2 => exact HC0_1.out); rintro e w18 ⟨rfl, hb⟩; refine ⟨_, rfl, ?_⟩; have n0_ := Aside0.mk (blkB BK195.out hb); have n1_ := Aside0.mk (below_step (bW) hb); clear BK195; clear HB; have BK195 := n0_; have HB := n1_; clear n0_ n1_; (try clear hb); (try clear hb2); (try clear hk); (try clear hi)))
   go_ret
   exact ⟨eW, bW⟩
 ·replace c4 := Bool.eq_false_iff.mpr c4
  subst c4
  have H1 : (some false) = some r := by rw [if_neg (show ¬ (false = true) by decide)] at H; exact H
  clear H
  have H := H1
  clear H1
  obtain rfl := Option.some.inj H
  go_enter Tryd.func9, Tryd.ntmps9
  go_wp2_with (first | ((with_reducible refine gate_dst (N := 2) rfl ?_); (try (refine gate_guard (by rfl) ?_; dsimp only)); refine boxS (N := 2) (cs := #[.int .i64 a0_0, .slice A0_1 l0_1.length c0_1]) (t := 29) ?_; intro gb195 hg w19 hbox hb; have n0_ := Aside0.mk (below_step (bW) hb); have n1_ := Aside0.mk (hbox); have n2_ := geW (w := w) hg; have n3_ := geW (w := w) hg; clear HB; have HB := n0_; have BK195 := n1_; have GW195 := n2_; have GE195 := n3_; clear n0_ n1_ n2_ n3_; clear hb hbox hg; obtain ⟨hcz20_0, hcz20_1⟩ := cells2 BK195.out; obtain ⟨hfz20_0, hfz20_1⟩ := frz2 BK195.out) | ((with_reducible refine gate_callee (f := 18) rfl ?_); refine goesS (some 6) Tryd.func18 #[.agg #[.int .i64 a0_0, .slice A0_1 l0_1.length c0_1]] ?_; (with_reducible refine (impl_IsAlphabet.calls k a0_0 _ _ l0_1 false _ ?side1 ?side2 A3.out (tabW HTab.out)).mono ?_); (case side1 => exact cP (Kd.C_below HR0_1.out HB.out)); (case side2 => exact HC0_1.out); rintro e w21 ⟨rfl, hb⟩; refine ⟨_, rfl, ?_⟩; have n0_ := Aside0.mk (blkB BK195.out hb); have n1_ := Aside0.mk (below_step (bW) hb); clear BK195; clear HB; have BK195 := n0_; have HB := n1_; clear n0_ n1_; (try clear hb); (try clear hb2); (try clear hk); (try clear hi)))
  go_ret
  exact ⟨eW, bW⟩

/-! ### laws_eqInt64S: function 20 -/
def laws_eqInt64S.l0 : Nat → List Int → List Int → Int → Option (Bool)
 | 0, _, _, _ => none
 | k + 1, x0, x1, x5 => if x5 < (x0.length : Int) then (if 0 ≤ x5 then (if x5 < (x1.length : Int) then (if (rd x0 x5) = (rd x1 x5) then (laws_eqInt64S.l0 k x0 x1 (wrap64 (x5 + 1))) else (some false)) else (none)) else (none)) else (some true)
def laws_eqInt64S.f (k : Nat) (l0 : List Int) (l1 : List Int) : Option (Bool) := if (l0.length : Int) = (l1.length : Int) then (laws_eqInt64S.l0 k l0 l1 0) else (some false)
theorem laws_eqInt64S.mono_l : ∀ k, (∀ y0 y1 y2, LeO (laws_eqInt64S.l0 k y0 y1 y2) (laws_eqInt64S.l0 (k + 1) y0 y1 y2))
 | 0 => fun _ _ _ r h => by simp [laws_eqInt64S.l0] at h
 | k + 1 => by
  have ih0 := laws_eqInt64S.mono_l k
  ·intro y0 y1 y2
   unfold laws_eqInt64S.l0
   repeat' first
   | (with_reducible exact ih0 _ _ _)
   | (with_reducible exact LeO.refl _)
   | (with_reducible exact LeO.none _)
   | (with_reducible refine LeO.ite ?_ ?_)
   | (with_reducible refine LeO.bind ?_ (fun _ => ?_))
   | exact ih0 _ _ _
   | exact LeO.none _
   | refine LeO.ite ?_ ?_
   | refine LeO.bind ?_ (fun _ => ?_)
theorem laws_eqInt64S.mono : ∀ a0 a1 k, LeO (laws_eqInt64S.f k a0 a1) (laws_eqInt64S.f (k + 1) a0 a1) := by
 intro a0 a1 k
 have ih0 := laws_eqInt64S.mono_l k
 unfold laws_eqInt64S.f
 repeat' first
   | (with_reducible exact ih0 _ _ _)
   | (with_reducible exact LeO.refl _)
   | (with_reducible exact LeO.none _)
   | (with_reducible refine LeO.ite ?_ ?_)
   | (with_reducible refine LeO.bind ?_ (fun _ => ?_))
   | exact ih0 _ _ _
   | exact LeO.none _
   | refine LeO.ite ?_ ?_
   | refine LeO.bind ?_ (fun _ => ?_)
set_option maxHeartbeats 8000000 in
set_option maxRecDepth 100000 in
theorem laws_eqInt64S.calls (k : Nat) (A0 : Option Addr) (c0 : Nat) (l0 : List Int) (A1 : Option Addr) (c1 : Nat) (l1 : List Int) (r : Bool) (w : World) (hr0 : Kd.C (Kd.int .i64) w A0 l0.length l0) (hc0 : l0.length ≤ c0) (hr1 : Kd.C (Kd.int .i64) w A1 l1.length l1) (hc1 : l1.length ≤ c1) (h : laws_eqInt64S.f k l0 l1 = some r) :
  Calls Tryd.prog 20 #[.slice A0 l0.length c0, .slice A1 l1.length c1] w fun e w' => e = .returned (.bool r) ∧ Drawn0 w w' := by
 have HR0 := Aside0.mk hr0
 have HC0 := Aside0.mk hc0
 clear hr0 hc0
 have HR1 := Aside0.mk hr1
 have HC1 := Aside0.mk hc1
 clear hr1 hc1
 have H : (if (l0.length : Int) = (l1.length : Int) then (laws_eqInt64S.l0 k l0 l1 0) else (some false)) = some r := h
 clear h
 by_cases c3 : (l0.length : Int) = (l1.length : Int)
 ·rw [if_pos c3] at H
  have c3b0 : ((l0.length : Int) == (l1.length : Int)) = true := beq_iff_eq.mpr c3
  have c3b1 : ((l0.length : Int) != (l1.length : Int)) = false := bne_eq_false_iff_eq.mpr c3
  have c3b2 : (l0.length == l1.length) = true := by first | simpa using c3 | (simp at c3 ⊢; omega)
  clear c3
  have H' := Aside0.mk H
  clear H
  go_enter Tryd.func20, Tryd.ntmps20
  go_wp2
  repeat (go_quiet (fail); try go_wp2)
  go_loopg [5] k (fun kq v5 w' => ∃ (x5_1 : Int), v5 = .int .i64 x5_1 ∧ Aside0 (laws_eqInt64S.l0 kq l0 l1 x5_1 = some r) ∧ Aside0 (kq ≤ k) ∧ Drawn0 w w')
  case atStart => exact ⟨(0), (eW), H', ⟨Nat.le_refl _⟩, by repeat (first | exact Drawn0.refl _ | apply Drawn0.step)⟩
  case round =>
   clear H'
   try clear c1
   try clear c2
   try clear p2
   try clear c3
   try clear c3b0
   try clear c3b1
   try clear c3b2
   obtain ⟨x5_1, rfl, HA, HK1, ⟨m1, rfl⟩⟩ := hrel
   cases gk with
   | zero => exact absurd HA.out (by simp [laws_eqInt64S.l0])
   | succ k1 =>
    have H := HA.out
    clear HA
    simp only [laws_eqInt64S.l0] at H
    by_cases c4 : x5_1 < (l0.length : Int)
    ·rw [if_pos c4] at H
     have c4b0 : decide (x5_1 < (l0.length : Int)) = true := decide_eq_true c4
     clear c4
     by_cases c5 : 0 ≤ x5_1
     ·rw [if_pos c5] at H
      have c5b0 : decide (0 ≤ x5_1) = true := decide_eq_true c5
      clear c5
      by_cases c6 : x5_1 < (l1.length : Int)
      ·rw [if_pos c6] at H
       have c6b0 : decide (x5_1 < (l1.length : Int)) = true := decide_eq_true c6
       clear c6
       by_cases c7 : (rd l0 x5_1) = (rd l1 x5_1)
       ·rw [if_pos c7] at H
        have c7b0 : ((rd l0 x5_1) == (rd l1 x5_1)) = true := beq_iff_eq.mpr c7
        have c7b1 : ((rd l0 x5_1) != (rd l1 x5_1)) = false := bne_eq_false_iff_eq.mpr c7
        clear c7
        have H' := Aside0.mk H
        clear H
        have p198 : 0 ≤ (x5_1 : Int) := ofD
        have q198 : x5_1 < (l0.length : Int) := ofD
        obtain ⟨ad198, e198, hx198_0⟩ := Kd.at_int HR0.out x5_1 p198 q198
        cases e198
        replace p198 := eq_true p198
        replace q198 := eq_true q198
        have p199 : 0 ≤ (x5_1 : Int) := ofD
        have q199 : x5_1 < (l1.length : Int) := ofD
        obtain ⟨ad199, e199, hx199_0⟩ := Kd.at_int HR1.out x5_1 p199 q199
        cases e199
        replace p199 := eq_true p199
        replace q199 := eq_true q199
        go_wp2
        repeat (go_quiet (fail); try go_wp2)
        go_roundg k1
        case measure => have := HK1.out; omega
        case rel => exact ⟨(wrap64 (x5_1 + 1)), (eW), H', ⟨by have := HK1.out; omega⟩, by repeat (first | exact Drawn0.refl _ | apply Drawn0.step)⟩
       ·rw [if_neg c7] at H
        have c7b0 : ((rd l0 x5_1) == (rd l1 x5_1)) = false := beq_eq_false_iff_ne.mpr c7
        have c7b1 : ((rd l0 x5_1) != (rd l1 x5_1)) = true := bne_iff_ne.mpr c7
        obtain rfl := Option.some.inj H
        have p198 : 0 ≤ (x5_1 : Int) := ofD
        have q198 : x5_1 < (l0.length : Int) := ofD
        obtain ⟨ad198, e198, hx198_0⟩ := Kd.at_int HR0.out x5_1 p198 q198
        cases e198
        replace p198 := eq_true p198
        replace q198 := eq_true q198
        have p199 : 0 ≤ (x5_1 : Int) := ofD
        have q199 : x5_1 < (l1.length : Int) := ofD
        obtain ⟨ad199, e199, hx199_0⟩ := Kd.at_int HR1.out x5_1 p199 q199
        cases e199
        replace p199 := eq_true p199
        replace q199 := eq_true q199
        go_wp2
        repeat (go_quiet (fail); try go_wp2)
        go_ret
        exact ⟨eW, by repeat (first | exact Drawn0.refl _ | apply Drawn0.step)⟩
      ·rw [if_neg c6] at H
       exact absurd H (by simp)
     ·rw [if_neg c5] at H
      exact absurd H (by simp)
    ·rw [if_neg c4] at H
     have c4b0 : decide (x5_1 < (l0.length : Int)) = false := decide_eq_false c4
     clear c4
     obtain rfl := Option.some.inj H
     go_wp2
     repeat (go_quiet (fail); try go_wp2)
     go_ret
     exact ⟨eW, by repeat (first | exact Drawn0.refl _ | apply Drawn0.step)⟩
 ·rw [if_neg c3] at H
  have c3b0 : ((l0.length : Int) == (l1.length : Int)) = false := beq_eq_false_iff_ne.mpr c3
  have c3b1 : ((l0.length : Int) != (l1.length : Int)) = true := bne_iff_ne.mpr c3
  have c3b2 : (l0.length == l1.length) = false := by first | simpa using c3 | (simp at c3 ⊢; omega)
  obtain rfl := Option.some.inj H
  go_enter Tryd.func20, Tryd.ntmps20
  go_wp2
  repeat (go_quiet (fail); try go_wp2)
  go_ret
  exact ⟨eW, by repeat (first | exact Drawn0.refl _ | apply Drawn0.step)⟩

/-! ### laws_eqAlphabet: function 10 -/
def laws_eqAlphabet.f (k : Nat) (a0_0 : Int) (l0_1 : List Int) (a1_0 : Int) (l1_1 : List Int) : Option (Bool) := if a0_0 = a1_0 then ((laws_eqInt64S.f k l0_1 l1_1).bind fun t202 => (if t202 = true then (some true) else (some false))) else (some false)
theorem laws_eqAlphabet.mono : ∀ a0 a1 a2 a3 k, LeO (laws_eqAlphabet.f k a0 a1 a2 a3) (laws_eqAlphabet.f (k + 1) a0 a1 a2 a3) := by
 intro a0 a1 a2 a3 k
 unfold laws_eqAlphabet.f
 repeat' first
   | (with_reducible exact laws_eqInt64S.mono _ _ _)
   | (with_reducible exact LeO.refl _)
   | (with_reducible exact LeO.none _)
   | (with_reducible refine LeO.ite ?_ ?_)
   | (with_reducible refine LeO.bind ?_ (fun _ => ?_))
   | exact laws_eqInt64S.mono _ _ _
   | exact LeO.none _
   | refine LeO.ite ?_ ?_
   | refine LeO.bind ?_ (fun _ => ?_)
set_option maxHeartbeats 8000000 in
set_option maxRecDepth 100000 in
theorem laws_eqAlphabet.calls (k : Nat) (a0_0 : Int) (A0_1 : Option Addr) (c0_1 : Nat) (l0_1 : List Int) (a1_0 : Int) (A1_1 : Option Addr) (c1_1 : Nat) (l1_1 : List Int) (r : Bool) (w : World) (hr0_1 : Kd.C (Kd.int .i64) w A0_1 l0_1.length l0_1) (hc0_1 : l0_1.length ≤ c0_1) (hr1_1 : Kd.C (Kd.int .i64) w A1_1 l1_1.length l1_1) (hc1_1 : l1_1.length ≤ c1_1) (h : laws_eqAlphabet.f k a0_0 l0_1 a1_0 l1_1 = some r) :
  Calls Tryd.prog 10 #[.agg #[.int .i64 a0_0, .slice A0_1 l0_1.length c0_1], .agg #[.int .i64 a1_0, .slice A1_1 l1_1.length c1_1]] w fun e w' => e = .returned (.bool r) ∧ Below w.heap.size w w' := by
 have hu29 := Tryd.underlying29
 have HR0_1 := Aside0.mk hr0_1
 have HC0_1 := Aside0.mk hc0_1
 clear hr0_1 hc0_1
 have HR1_1 := Aside0.mk hr1_1
 have HC1_1 := Aside0.mk hc1_1
 clear hr1_1 hc1_1
 have HB := Aside0.mk (Below.refl w.heap.size w)
 have H : (if a0_0 = a1_0 then ((laws_eqInt64S.f k l0_1 l1_1).bind fun t202 => (if t202 = true then (some true) else (some false))) else (some false)) = some r := h
 clear h
 by_cases c3 : a0_0 = a1_0
 ·rw [if_pos c3] at H
  have c3b0 : (a0_0 == a1_0) = true := beq_iff_eq.mpr c3
  have c3b1 : (a0_0 != a1_0) = false := bne_eq_false_iff_eq.mpr c3
  clear c3
  replace H := Option.bind_eq_some_iff.mp H
  obtain ⟨t202, A40, H⟩ := H
  replace H : (if t202 = true then (some true) else (some false)) = some r := H
  have A4 := Aside0.mk A40
  clear A40
  by_cases c5 : t202 = true
  ·subst c5
   have H1 : (some true) = some r := by rw [if_pos rfl] at H; exact H
   clear H
   have H := H1
   clear H1
   obtain rfl := Option.some.inj H
   go_enter Tryd.func10, Tryd.ntmps10
   go_wp2_with (first | ((with_reducible refine gate_dst (N := 2) rfl ?_); refine boxS (N := 2) (cs := #[.int .i64 a0_0, .slice A0_1 l0_1.length c0_1]) (t := 29) ?_; intro gb200 hg w6 hbox hb; have n0_ := Aside0.mk (below_step (bW) hb); have n1_ := Aside0.mk (hbox); have n2_ := geW (w := w) hg; have n3_ := geW (w := w) hg; clear HB; have HB := n0_; have BK200 := n1_; have GW200 := n2_; have GE200 := n3_; clear n0_ n1_ n2_ n3_; clear hb hbox hg) | ((with_reducible refine gate_dst (N := 3) rfl ?_); refine boxS (N := 3) (cs := #[.int .i64 a1_0, .slice A1_1 l1_1.length c1_1]) (t := 29) ?_; intro gb201 hg w7 hbox hb; have n0_ := Aside0.mk (blkB BK200.out hb); have n1_ := Aside0.mk (below_step (bW) hb); have n2_ := Aside0.mk (hbox); have n3_ := geW (w := w) hg; have n4_ := geW (w := w) hg; have n5_ := Aside0.mk ((by rw [hg]; exact Nat.ne_of_lt (blk_lt (g := gb200) (o := .cells #[.int .i64 a0_0, .slice A0_1 l0_1.length c0_1] 29 (0, 0)) (bP BK200.out)) : gb200 ≠ gb201)); have n6_ := Aside0.mk ((by rw [hg]; exact Nat.ne_of_gt (blk_lt (g := gb200) (o := .cells #[.int .i64 a0_0, .slice A0_1 l0_1.length c0_1] 29 (0, 0)) (bP BK200.out)) : gb201 ≠ gb200)); clear BK200; clear HB; have BK200 := n0_; have HB := n1_; have BK201 := n2_; have GW201 := n3_; have GE201 := n4_; have NB200_201 := n5_; have NB201_200 := n6_; clear n0_ n1_ n2_ n3_ n4_ n5_ n6_; clear hb hbox hg; have hnb8 := NB200_201.out; have hnc8 := NB201_200.out; obtain ⟨hcz9_0, hcz9_1⟩ := cells2 BK200.out; obtain ⟨hfz9_0, hfz9_1⟩ := frz2 BK200.out; obtain ⟨hcz10_0, hcz10_1⟩ := cells2 BK201.out; obtain ⟨hfz10_0, hfz10_1⟩ := frz2 BK201.out) | ((with_reducible refine gate_callee (f := 20) rfl ?_); refine goesS (some 14) Tryd.func20 #[.slice A0_1 l0_1.length c0_1, .slice A1_1 l1_1.length c1_1] ?_; (with_reducible refine (laws_eqInt64S.calls k _ _ l0_1 _ _ l1_1 true _ ?side1 ?side2 ?side3 ?side4 A4.out).mono ?_); (case side1 => exact cP (Kd.C_below HR0_1.out HB.out)); (case side2 => exact HC0_1.out); (case side3 => exact cP (Kd.C_below HR1_1.out HB.out)); (case side4 => exact HC1_1.out); rintro e w' ⟨rfl, ⟨nd, rfl⟩⟩; refine ⟨_, rfl, ?_⟩))
   go_ret
   exact ⟨eW, bW⟩
  ·replace c5 := Bool.eq_false_iff.mpr c5
   subst c5
   have H1 : (some false) = some r := by rw [if_neg (show ¬ (false = true) by decide)] at H; exact H
   clear H
   have H := H1
   clear H1
   obtain rfl := Option.some.inj H
   go_enter Tryd.func10, Tryd.ntmps10
   go_wp2_with (first | ((with_reducible refine gate_dst (N := 2) rfl ?_); refine boxS (N := 2) (cs := #[.int .i64 a0_0, .slice A0_1 l0_1.length c0_1]) (t := 29) ?_; intro gb200 hg w11 hbox hb; have n0_ := Aside0.mk (below_step (bW) hb); have n1_ := Aside0.mk (hbox); have n2_ := geW (w := w) hg; have n3_ := geW (w := w) hg; clear HB; have HB := n0_; have BK200 := n1_; have GW200 := n2_; have GE200 := n3_; clear n0_ n1_ n2_ n3_; clear hb hbox hg) | ((with_reducible refine gate_dst (N := 3) rfl ?_); refine boxS (N := 3) (cs := #[.int .i64 a1_0, .slice A1_1 l1_1.length c1_1]) (t := 29) ?_; intro gb201 hg w12 hbox hb; have n0_ := Aside0.mk (blkB BK200.out hb); have n1_ := Aside0.mk (below_step (bW) hb); have n2_ := Aside0.mk (hbox); have n3_ := geW (w := w) hg; have n4_ := geW (w := w) hg; have n5_ := Aside0.mk ((by rw [hg]; exact Nat.ne_of_lt (blk_lt (g := gb200) (o := .cells #[.int .i64 a0_0, .slice A0_1 l0_1.length c0_1] 29 (0, 0)) (bP BK200.out)) : gb200 ≠ gb201)); have n6_ := Aside0.mk ((by rw [hg]; exact Nat.ne_of_gt (blk_lt (g := gb200) (o := .cells #[.int .i64 a0_0, .slice A0_1 l0_1.length c0_1] 29 (0, 0)) (bP BK200.out)) : gb201 ≠ gb200)); clear BK200; clear HB; have BK200 := n0_; have HB := n1_; have BK201 := n2_; have GW201 := n3_; have GE201 := n4_; have NB200_201 := n5_; have NB201_200 := n6_; clear n0_ n1_ n2_ n3_ n4_ n5_ n6_; clear hb hbox hg; have hnb13 := NB200_201.out; have hnc13 := NB201_200.out; obtain ⟨hcz14_0, hcz14_1⟩ := cells2 BK200.out; obtain ⟨hfz14_0, hfz14_1⟩ := frz2 BK200.out; obtain ⟨hcz15_0, hcz15_1⟩ := cells2 BK201.out; obtain ⟨hfz15_0, hfz15_1⟩ := frz2 BK201.out) | ((with_reducible refine gate_callee (f := 20) rfl ?_); refine goesS (some 14) Tryd.func20 #[.slice A0_1 l0_1.length c0_1, .slice A1_1 l1_1.length c1_1] ?_; (with_reducible refine (laws_eqInt64S.calls k _ _ l0_1 _ _ l1_1 false _ ?side1 ?side2 ?side3 ?side4 A4.out).mono ?_); (case side1 => exact cP (Kd.C_below HR0_1.out HB.out)); (case side2 => exact HC0_1.out); (case side3 => exact cP (Kd.C_below HR1_1.out HB.out)); (case side4 => exact HC1_1.out); rintro e w' ⟨rfl, ⟨nd, rfl⟩⟩; refine ⟨_, rfl, ?_⟩))
   go_ret
   exact ⟨eW, bW⟩
 ·rw [if_neg c3] at H
  have c3b0 : (a0_0 == a1_0) = false := beq_eq_false_iff_ne.mpr c3
  have c3b1 : (a0_0 != a1_0) = true := bne_iff_ne.mpr c3
  obtain rfl := Option.some.inj H
  go_enter Tryd.func10, Tryd.ntmps10
  go_wp2_with (first | ((with_reducible refine gate_dst (N := 2) rfl ?_); refine boxS (N := 2) (cs := #[.int .i64 a0_0, .slice A0_1 l0_1.length c0_1]) (t := 29) ?_; intro gb200 hg w16 hbox hb; have n0_ := Aside0.mk (below_step (bW) hb); have n1_ := Aside0.mk (hbox); have n2_ := geW (w := w) hg; have n3_ := geW (w := w) hg; clear HB; have HB := n0_; have BK200 := n1_; have GW200 := n2_; have GE200 := n3_; clear n0_ n1_ n2_ n3_; clear hb hbox hg) | ((with_reducible refine gate_dst (N := 3) rfl ?_); refine boxS (N := 3) (cs := #[.int .i64 a1_0, .slice A1_1 l1_1.length c1_1]) (t := 29) ?_; intro gb201 hg w17 hbox hb; have n0_ := Aside0.mk (blkB BK200.out hb); have n1_ := Aside0.mk (below_step (bW) hb); have n2_ := Aside0.mk (hbox); have n3_ := geW (w := w) hg; have n4_ := geW (w := w) hg; have n5_ := Aside0.mk ((by rw [hg]; exact Nat.ne_of_lt (blk_lt (g := gb200) (o := .cells #[.int .i64 a0_0, .slice A0_1 l0_1.length c0_1] 29 (0, 0)) (bP BK200.out)) : gb200 ≠ gb201)); have n6_ := Aside0.mk ((by rw [hg]; exact Nat.ne_of_gt (blk_lt (g := gb200) (o := .cells #[.int .i64 a0_0, .slice A0_1 l0_1.length c0_1] 29 (0, 0)) (bP BK200.out)) : gb201 ≠ gb200)); clear BK200; clear HB; have BK200 := n0_; have HB := n1_; have BK201 := n2_; have GW201 := n3_; have GE201 := n4_; have NB200_201 := n5_; have NB201_200 := n6_; clear n0_ n1_ n2_ n3_ n4_ n5_ n6_; clear hb hbox hg; have hnb18 := NB200_201.out; have hnc18 := NB201_200.out; obtain ⟨hcz19_0, hcz19_1⟩ := cells2 BK200.out; obtain ⟨hfz19_0, hfz19_1⟩ := frz2 BK200.out; obtain ⟨hcz20_0, hcz20_1⟩ := cells2 BK201.out; obtain ⟨hfz20_0, hfz20_1⟩ := frz2 BK201.out))
  go_ret
  exact ⟨eW, bW⟩

/-! ### laws_eqTerm: function 21 -/
def laws_eqTerm.f (a0_0 : Int) (a0_1 : Int) (a1_0 : Int) (a1_1 : Int) : Option (Bool) := if a0_0 = a1_0 then (if a0_1 = a1_1 then (some true) else (some false)) else (some false)
set_option maxHeartbeats 8000000 in
set_option maxRecDepth 100000 in
theorem laws_eqTerm.calls (a0_0 : Int) (a0_1 : Int) (a1_0 : Int) (a1_1 : Int) (r : Bool) (w : World) (h : laws_eqTerm.f a0_0 a0_1 a1_0 a1_1 = some r) :
  Calls Tryd.prog 21 #[.agg #[.int .i64 a0_0, .int .i64 a0_1], .agg #[.int .i64 a1_0, .int .i64 a1_1]] w fun e w' => e = .returned (.bool r) ∧ Below w.heap.size w w' := by
 have hu39 := Tryd.underlying39
 have HB := Aside0.mk (Below.refl w.heap.size w)
 have H : (if a0_0 = a1_0 then (if a0_1 = a1_1 then (some true) else (some false)) else (some false)) = some r := h
 clear h
 by_cases c3 : a0_0 = a1_0
 ·rw [if_pos c3] at H
  have c3b0 : (a0_0 == a1_0) = true := beq_iff_eq.mpr c3
  have c3b1 : (a0_0 != a1_0) = false := bne_eq_false_iff_eq.mpr c3
  clear c3
  by_cases c4 : a0_1 = a1_1
  ·rw [if_pos c4] at H
   have c4b0 : (a0_1 == a1_1) = true := beq_iff_eq.mpr c4
   have c4b1 : (a0_1 != a1_1) = false := bne_eq_false_iff_eq.mpr c4
   clear c4
   obtain rfl := Option.some.inj H
   go_enter Tryd.func21, Tryd.ntmps21
   go_wp2_with (first | ((with_reducible refine gate_dst (N := 2) rfl ?_); refine boxS (N := 2) (cs := #[.int .i64 a0_0, .int .i64 a0_1]) (t := 39) ?_; intro gb203 hg w5 hbox hb; have n0_ := Aside0.mk (below_step (bW) hb); have n1_ := Aside0.mk (hbox); have n2_ := geW (w := w) hg; have n3_ := geW (w := w) hg; clear HB; have HB := n0_; have BK203 := n1_; have GW203 := n2_; have GE203 := n3_; clear n0_ n1_ n2_ n3_; clear hb hbox hg) | ((with_reducible refine gate_dst (N := 3) rfl ?_); refine boxS (N := 3) (cs := #[.int .i64 a1_0, .int .i64 a1_1]) (t := 39) ?_; intro gb204 hg w6 hbox hb; have n0_ := Aside0.mk (blkB BK203.out hb); have n1_ := Aside0.mk (below_step (bW) hb); have n2_ := Aside0.mk (hbox); have n3_ := geW (w := w) hg; have n4_ := geW (w := w) hg; have n5_ := Aside0.mk ((by rw [hg]; exact Nat.ne_of_lt (blk_lt (g := gb203) (o := .cells #[.int .i64 a0_0, .int .i64 a0_1] 39 (0, 0)) (bP BK203.out)) : gb203 ≠ gb204)); have n6_ := Aside0.mk ((by rw [hg]; exact Nat.ne_of_gt (blk_lt (g := gb203) (o := .cells #[.int .i64 a0_0, .int .i64 a0_1] 39 (0, 0)) (bP BK203.out)) : gb204 ≠ gb203)); clear BK203; clear HB; have BK203 := n0_; have HB := n1_; have BK204 := n2_; have GW204 := n3_; have GE204 := n4_; have NB203_204 := n5_; have NB204_203 := n6_; clear n0_ n1_ n2_ n3_ n4_ n5_ n6_; clear hb hbox hg; have hnb7 := NB203_204.out; have hnc7 := NB204_203.out; obtain ⟨hcz8_0, hcz8_1⟩ := cells2 BK203.out; obtain ⟨hfz8_0, hfz8_1⟩ := frz2 BK203.out; obtain ⟨hcz9_0, hcz9_1⟩ := cells2 BK204.out; obtain ⟨hfz9_0, hfz9_1⟩ := frz2 BK204.out))
   go_ret
   exact ⟨eW, bW⟩
  ·rw [if_neg c4] at H
   have c4b0 : (a0_1 == a1_1) = false := beq_eq_false_iff_ne.mpr c4
   have c4b1 : (a0_1 != a1_1) = true := bne_iff_ne.mpr c4
   obtain rfl := Option.some.inj H
   go_enter Tryd.func21, Tryd.ntmps21
   go_wp2_with (first | ((with_reducible refine gate_dst (N := 2) rfl ?_); refine boxS (N := 2) (cs := #[.int .i64 a0_0, .int .i64 a0_1]) (t := 39) ?_; intro gb203 hg w10 hbox hb; have n0_ := Aside0.mk (below_step (bW) hb); have n1_ := Aside0.mk (hbox); have n2_ := geW (w := w) hg; have n3_ := geW (w := w) hg; clear HB; have HB := n0_; have BK203 := n1_; have GW203 := n2_; have GE203 := n3_; clear n0_ n1_ n2_ n3_; clear hb hbox hg) | ((with_reducible refine gate_dst (N := 3) rfl ?_); refine boxS (N := 3) (cs := #[.int .i64 a1_0, .int .i64 a1_1]) (t := 39) ?_; intro gb204 hg w11 hbox hb; have n0_ := Aside0.mk (blkB BK203.out hb); have n1_ := Aside0.mk (below_step (bW) hb); have n2_ := Aside0.mk (hbox); have n3_ := geW (w := w) hg; have n4_ := geW (w := w) hg; have n5_ := Aside0.mk ((by rw [hg]; exact Nat.ne_of_lt (blk_lt (g := gb203) (o := .cells #[.int .i64 a0_0, .int .i64 a0_1] 39 (0, 0)) (bP BK203.out)) : gb203 ≠ gb204)); have n6_ := Aside0.mk ((by rw [hg]; exact Nat.ne_of_gt (blk_lt (g := gb203) (o := .cells #[.int .i64 a0_0, .int .i64 a0_1] 39 (0, 0)) (bP BK203.out)) : gb204 ≠ gb203)); clear BK203; clear HB; have BK203 := n0_; have HB := n1_; have BK204 := n2_; have GW204 := n3_; have GE204 := n4_; have NB203_204 := n5_; have NB204_203 := n6_; clear n0_ n1_ n2_ n3_ n4_ n5_ n6_; clear hb hbox hg; have hnb12 := NB203_204.out; have hnc12 := NB204_203.out; obtain ⟨hcz13_0, hcz13_1⟩ := cells2 BK203.out; obtain ⟨hfz13_0, hfz13_1⟩ := frz2 BK203.out; obtain ⟨hcz14_0, hcz14_1⟩ := cells2 BK204.out; obtain ⟨hfz14_0, hfz14_1⟩ := frz2 BK204.out))
   go_ret
   exact ⟨eW, bW⟩
 ·rw [if_neg c3] at H
  have c3b0 : (a0_0 == a1_0) = false := beq_eq_false_iff_ne.mpr c3
  have c3b1 : (a0_0 != a1_0) = true := bne_iff_ne.mpr c3
  obtain rfl := Option.some.inj H
  go_enter Tryd.func21, Tryd.ntmps21
  go_wp2_with (first | ((with_reducible refine gate_dst (N := 2) rfl ?_); refine boxS (N := 2) (cs := #[.int .i64 a0_0, .int .i64 a0_1]) (t := 39) ?_; intro gb203 hg w15 hbox hb; have n0_ := Aside0.mk (below_step (bW) hb); have n1_ := Aside0.mk (hbox); have n2_ := geW (w := w) hg; have n3_ := geW (w := w) hg; clear HB; have HB := n0_; have BK203 := n1_; have GW203 := n2_; have GE203 := n3_; clear n0_ n1_ n2_ n3_; clear hb hbox hg) | ((with_reducible refine gate_dst (N := 3) rfl ?_); refine boxS (N := 3) (cs := #[.int .i64 a1_0, .int .i64 a1_1]) (t := 39) ?_; intro gb204 hg w16 hbox hb; have n0_ := Aside0.mk (blkB BK203.out hb); have n1_ := Aside0.mk (below_step (bW) hb); have n2_ := Aside0.mk (hbox); have n3_ := geW (w := w) hg; have n4_ := geW (w := w) hg; have n5_ := Aside0.mk ((by rw [hg]; exact Nat.ne_of_lt (blk_lt (g := gb203) (o := .cells #[.int .i64 a0_0, .int .i64 a0_1] 39 (0, 0)) (bP BK203.out)) : gb203 ≠ gb204)); have n6_ := Aside0.mk ((by rw [hg]; exact Nat.ne_of_gt (blk_lt (g := gb203) (o := .cells #[.int .i64 a0_0, .int .i64 a0_1] 39 (0, 0)) (bP BK203.out)) : gb204 ≠ gb203)); clear BK203; clear HB; have BK203 := n0_; have HB := n1_; have BK204 := n2_; have GW204 := n3_; have GE204 := n4_; have NB203_204 := n5_; have NB204_203 := n6_; clear n0_ n1_ n2_ n3_ n4_ n5_ n6_; clear hb hbox hg; have hnb17 := NB203_204.out; have hnc17 := NB204_203.out; obtain ⟨hcz18_0, hcz18_1⟩ := cells2 BK203.out; obtain ⟨hfz18_0, hfz18_1⟩ := frz2 BK203.out; obtain ⟨hcz19_0, hcz19_1⟩ := cells2 BK204.out; obtain ⟨hfz19_0, hfz19_1⟩ := frz2 BK204.out))
  go_ret
  exact ⟨eW, bW⟩

/-! ### laws_eqTermS: function 11 -/
def laws_eqTermS.l0 : Nat → List (S39) → List (S39) → Int → Option (Bool)
 | 0, _, _, _ => none
 | k + 1, x0, x1, x5 => if x5 < (x0.length : Int) then (if 0 ≤ x5 then (if x5 < (x1.length : Int) then ((laws_eqTerm.f ((rd_T39 x0 x5).f0) ((rd_T39 x0 x5).f1) ((rd_T39 x1 x5).f0) ((rd_T39 x1 x5).f1)).bind fun t207 => (if t207 = true then (laws_eqTermS.l0 k x0 x1 (wrap64 (x5 + 1))) else (some false))) else (none)) else (none)) else (some true)
def laws_eqTermS.f (k : Nat) (l0 : List (S39)) (l1 : List (S39)) : Option (Bool) := if (l0.length : Int) = (l1.length : Int) then (laws_eqTermS.l0 k l0 l1 0) else (some false)
theorem laws_eqTermS.mono_l : ∀ k, (∀ y0 y1 y2, LeO (laws_eqTermS.l0 k y0 y1 y2) (laws_eqTermS.l0 (k + 1) y0 y1 y2))
 | 0 => fun _ _ _ r h => by simp [laws_eqTermS.l0] at h
 | k + 1 => by
  have ih0 := laws_eqTermS.mono_l k
  ·intro y0 y1 y2
   unfold laws_eqTermS.l0
   repeat' first
   | (with_reducible exact ih0 _ _ _)
   | (with_reducible exact LeO.refl _)
   | (with_reducible exact LeO.none _)
   | (with_reducible refine LeO.ite ?_ ?_)
   | (with_reducible refine LeO.bind ?_ (fun _ => ?_))
   | exact ih0 _ _ _
   | exact LeO.none _
   | refine LeO.ite ?_ ?_
   | refine LeO.bind ?_ (fun _ => ?_)
theorem laws_eqTermS.mono : ∀ a0 a1 k, LeO (laws_eqTermS.f k a0 a1) (laws_eqTermS.f (k + 1) a0 a1) := by
 intro a0 a1 k
 have ih0 := laws_eqTermS.mono_l k
 unfold laws_eqTermS.f
 repeat' first
   | (with_reducible exact ih0 _ _ _)
   | (with_reducible exact LeO.refl _)
   | (with_reducible exact LeO.none _)
   | (with_reducible refine LeO.ite ?_ ?_)
   | (with_reducible refine LeO.bind ?_ (fun _ => ?_))
   | exact ih0 _ _ _
   | exact LeO.none _
   | refine LeO.ite ?_ ?_
   | refine LeO.bind ?_ (fun _ => ?_)
def laws_eqTermS.T6 : Bool × List (List Nat × List Nat) := (true, [([], []), ([], []), ([0, 1], [0, 1]), ([2], [2]), ([], []), ([], []), ([4, 5], [4, 5]), ([6], [6]), ([3, 7], [3, 7]), ([8], [8])])
def laws_eqTermS.B6 : List Nat := [0, 0, 3, 7, 0, 0, 48, 112, 255, 511]
theorem laws_eqTermS.tab6 : rtab .any (opsOf Tryd.f11 6) = laws_eqTermS.T6 := by kernel_rfl
theorem laws_eqTermS.bits6 : waitsOk laws_eqTermS.T6.2 laws_eqTermS.B6 = true := by kernel_rfl
set_option maxHeartbeats 8000000 in
set_option maxRecDepth 100000 in
theorem laws_eqTermS.calls (k : Nat) (A0 : Option Addr) (c0 : Nat) (l0 : List (S39)) (A1 : Option Addr) (c1 : Nat) (l1 : List (S39)) (r : Bool) (w : World) (hr0 : Kd.C k39 w A0 l0.length l0) (hc0 : l0.length ≤ c0) (hr1 : Kd.C k39 w A1 l1.length l1) (hc1 : l1.length ≤ c1) (h : laws_eqTermS.f k l0 l1 = some r) :
  Calls Tryd.prog 11 #[.slice A0 l0.length c0, .slice A1 l1.length c1] w fun e w' => e = .returned (.bool r) ∧ Below w.heap.size w w' := by
 have hu39 := Tryd.underlying39
 have HR0 := Aside0.mk hr0
 have HC0 := Aside0.mk hc0
 clear hr0 hc0
 have HR1 := Aside0.mk hr1
 have HC1 := Aside0.mk hc1
 clear hr1 hc1
 have HB := Aside0.mk (Below.refl w.heap.size w)
 have H : (if (l0.length : Int) = (l1.length : Int) then (laws_eqTermS.l0 k l0 l1 0) else (some false)) = some r := h
 clear h
 by_cases c3 : (l0.length : Int) = (l1.length : Int)
 ·rw [if_pos c3] at H
  have c3b0 : ((l0.length : Int) == (l1.length : Int)) = true := beq_iff_eq.mpr c3
  have c3b1 : ((l0.length : Int) != (l1.length : Int)) = false := bne_eq_false_iff_eq.mpr c3
  have c3b2 : (l0.length == l1.length) = true := by first | simpa using c3 | (simp at c3 ⊢; omega)
  clear c3
  have H' := Aside0.mk H
  clear H
  go_enter Tryd.func11, Tryd.ntmps11
  go_wp2
  go_loopg [5] k (fun kq v5 w' => ∃ (x5_1 : Int), v5 = .int .i64 x5_1 ∧ Aside0 (laws_eqTermS.l0 kq l0 l1 x5_1 = some r) ∧ Aside0 (kq ≤ k) ∧ Aside0 (Below w.heap.size w w'))
  case atStart => exact ⟨(0), (eW), H', ⟨Nat.le_refl _⟩, ⟨bW⟩⟩
  case round =>
   clear H'
   try clear c1
   try clear p2
   try clear c3
   try clear c3b0
   try clear c3b1
   try clear c3b2
   obtain ⟨x5_1, rfl, HA, HK1, HB⟩ := hrel
   cases gk with
   | zero => exact absurd HA.out (by simp [laws_eqTermS.l0])
   | succ k1 =>
    have H := HA.out
    clear HA
    simp only [laws_eqTermS.l0] at H
    by_cases c4 : x5_1 < (l0.length : Int)
    ·rw [if_pos c4] at H
     have c4b0 : decide (x5_1 < (l0.length : Int)) = true := decide_eq_true c4
     clear c4
     by_cases c5 : 0 ≤ x5_1
     ·rw [if_pos c5] at H
      have c5b0 : decide (0 ≤ x5_1) = true := decide_eq_true c5
      clear c5
      by_cases c6 : x5_1 < (l1.length : Int)
      ·rw [if_pos c6] at H
       have c6b0 : decide (x5_1 < (l1.length : Int)) = true := decide_eq_true c6
       clear c6
       replace H := Option.bind_eq_some_iff.mp H
       obtain ⟨t207, A70, H⟩ := H
       replace H : (if t207 = true then (laws_eqTermS.l0 k1 l0 l1 (wrap64 (x5_1 + 1))) else (some false)) = some r := H
       have A7 := Aside0.mk A70
       clear A70
       by_cases c8 : t207 = true
       ·subst c8
        have H1 : (laws_eqTermS.l0 k1 l0 l1 (wrap64 (x5_1 + 1))) = some r := by rw [if_pos rfl] at H; exact H
        clear H
        have H := H1
        clear H1
        have H' := Aside0.mk H
        clear H
        try go_wp2
        have n0_ := Aside0.mk (below_drew1 HB.out)
        clear HB
        have HB := n0_
        clear n0_
        have p205 : 0 ≤ (x5_1 : Int) := ofD
        have q205 : x5_1 < (l0.length : Int) := ofD
        obtain ⟨ad205, e205, hx205_0, hx205_1⟩ := at_T39 HR0.out x5_1 p205 q205
        have hw205_1 := hx205_1
        have hw205_0 := hx205_0
        cases e205
        replace hx205_0 := (HB.out.cell (World.block_lt_of_cell? w _ hx205_0)).trans hx205_0
        replace hx205_1 := (HB.out.cell (World.block_lt_of_cell? w _ hx205_1)).trans hx205_1
        replace p205 := eq_true p205
        replace q205 := eq_true q205
        have p206 : 0 ≤ (x5_1 : Int) := ofD
        have q206 : x5_1 < (l1.length : Int) := ofD
        obtain ⟨ad206, e206, hx206_0, hx206_1⟩ := at_T39 HR1.out x5_1 p206 q206
        have hw206_1 := hx206_1
        have hw206_0 := hx206_0
        cases e206
        replace hx206_0 := (HB.out.cell (World.block_lt_of_cell? w _ hx206_0)).trans hx206_0
        replace hx206_1 := (HB.out.cell (World.block_lt_of_cell? w _ hx206_1)).trans hx206_1
        replace p206 := eq_true p206
        replace q206 := eq_true q206
        refine start_ (n := 10) (S := fun w' => w'.cell? (ad205.add ((x5_1).toNat * 2)) = some (.int .i64 ((rd_T39 l0 x5_1).f0)) ∧ w'.cell? ⟨(ad205.add ((x5_1).toNat * 2)).block, (ad205.add ((x5_1).toNat * 2)).off + 1, none⟩ = some (.int .i64 ((rd_T39 l0 x5_1).f1)) ∧ w'.cell? (ad206.add ((x5_1).toNat * 2)) = some (.int .i64 ((rd_T39 l1 x5_1).f0)) ∧ w'.cell? ⟨(ad206.add ((x5_1).toNat * 2)).block, (ad206.add ((x5_1).toNat * 2)).off + 1, none⟩ = some (.int .i64 ((rd_T39 l1 x5_1).f1))) (ds := []) #[false, false, false, false, false, false, false, false, false, false] (by kernel_rfl) rfl rfl ⟨((HB.out.cell (World.block_lt_of_cell? w _ hw205_0)).trans hw205_0), ((HB.out.cell (World.block_lt_of_cell? w _ hw205_1)).trans hw205_1), ((HB.out.cell (World.block_lt_of_cell? w _ hw206_0)).trans hw206_0), ((HB.out.cell (World.block_lt_of_cell? w _ hw206_1)).trans hw206_1)⟩ (fun hHeld => ?_); refine with_tabW laws_eqTermS.tab6 laws_eqTermS.bits6 (fun HT_ HW_ => ?_)
        generalize wr.drew = w9 at HB hx205_0 hx205_1 hx206_0 hx206_1 hHeld ⊢
        refine pure_ (i := 0) (N := some 17) (v := ?_) (a' := ?_) #[true, false, false, false, false, false, false, false, false, false] rfl rfl (any_of HT_.out (by kernel_rfl)) (fun _ _ _ h => h) (Or.inl ⟨by rfl, ?_⟩) ?_ ?_
        rotate_left
        ·intro w'
         go_simp
         with_reducible rfl
        rotate_left
        ·simp only [Act.put, List.setIfInBounds_toArray, List.set_cons_zero, List.set_cons_succ, i64_w, i32_w]
         rfl
        refine pure_ (i := 1) (N := some 18) (v := ?_) (a' := ?_) #[true, true, false, false, false, false, false, false, false, false] rfl rfl (any_of HT_.out (by kernel_rfl)) (fun _ _ _ h => h) (Or.inl ⟨by rfl, ?_⟩) ?_ ?_
        rotate_left
        ·intro w'
         go_simp
         with_reducible rfl
        rotate_left
        ·simp only [Act.put, List.setIfInBounds_toArray, List.set_cons_zero, List.set_cons_succ, i64_w, i32_w]
         rfl
        refine pure_ (i := 2) (N := some 19) (v := ?_) (a' := ?_) #[true, true, true, false, false, false, false, false, false, false] rfl rfl (any_of HT_.out (by kernel_rfl)) (fun _ _ _ h => h) (Or.inl ⟨by rfl, ?_⟩) ?_ ?_
        rotate_left
        ·intro w'
         go_simp
         with_reducible rfl
        rotate_left
        ·simp only [Act.put, List.setIfInBounds_toArray, List.set_cons_zero, List.set_cons_succ, i64_w, i32_w]
         rfl
        refine pure_ (i := 4) (N := some 21) (v := ?_) (a' := ?_) #[true, true, true, false, true, false, false, false, false, false] rfl rfl (any_of HT_.out (by kernel_rfl)) (fun _ _ _ h => h) (Or.inl ⟨by rfl, ?_⟩) ?_ ?_
        rotate_left
        ·intro w'
         go_simp
         with_reducible rfl
        rotate_left
        ·simp only [Act.put, List.setIfInBounds_toArray, List.set_cons_zero, List.set_cons_succ, i64_w, i32_w]
         rfl
        refine pure_ (i := 5) (N := some 22) (v := ?_) (a' := ?_) #[true, true, true, false, true, true, false, false, false, false] rfl rfl (any_of HT_.out (by kernel_rfl)) (fun _ _ _ h => h) (Or.inl ⟨by rfl, ?_⟩) ?_ ?_
        rotate_left
        ·intro w'
         go_simp
         with_reducible rfl
        rotate_left
        ·simp only [Act.put, List.setIfInBounds_toArray, List.set_cons_zero, List.set_cons_succ, i64_w, i32_w]
         rfl
        refine pure_ (i := 6) (N := some 23) (v := ?_) (a' := ?_) #[true, true, true, false, true, true, true, false, false, false] rfl rfl (any_of HT_.out (by kernel_rfl)) (fun _ _ _ h => h) (Or.inl ⟨by rfl, ?_⟩) ?_ ?_
        rotate_left
        ·intro w'
         go_simp
         with_reducible rfl
        rotate_left
        ·simp only [Act.put, List.setIfInBounds_toArray, List.set_cons_zero, List.set_cons_succ, i64_w, i32_w]
         rfl
        refine take_ (i := 3) (N := some 20) (v := ?_) (a' := ?_) #[true, true, true, true, true, true, true, false, false, false] rfl rfl (take_ofW HT_.out HW_.out (by kernel_rfl)) (fun _ _ _ h => h) (Or.inl ⟨by rfl, ?_⟩) hHeld ?_ ?_
        rotate_left
        ·rintro w' ⟨s0, s1, s2, s3⟩
         go_simp
         with_reducible rfl
        rotate_left
        ·simp only [Act.put, List.setIfInBounds_toArray, List.set_cons_zero, List.set_cons_succ, i64_w, i32_w]
         rfl
        refine take_ (i := 7) (N := some 24) (v := ?_) (a' := ?_) #[true, true, true, true, true, true, true, true, false, false] rfl rfl (take_ofW HT_.out HW_.out (by kernel_rfl)) (fun _ _ _ h => h) (Or.inl ⟨by rfl, ?_⟩) hHeld ?_ ?_
        rotate_left
        ·rintro w' ⟨s0, s1, s2, s3⟩
         go_simp
         with_reducible rfl
        rotate_left
        ·simp only [Act.put, List.setIfInBounds_toArray, List.set_cons_zero, List.set_cons_succ, i64_w, i32_w]
         rfl
        refine one_ (i := 8) (N := some 25) #[true, true, true, true, true, true, true, true, true, false] rfl rfl (one_of HT_.out (by kernel_rfl)) (by decide) (fun K hK => ?_)
        refine goes_ Tryd.func21 (by kernel_rfl) rfl #[.agg #[.int .i64 ((rd_T39 l0 x5_1).f0), .int .i64 ((rd_T39 l0 x5_1).f1)], .agg #[.int .i64 ((rd_T39 l1 x5_1).f0), .int .i64 ((rd_T39 l1 x5_1).f1)]] (by rfl) rfl rfl (by (try simp only [List.map_toArray, List.map_cons, List.map_nil]); first | done | rfl | (simp only [List.length_drop, List.length_take]; rfl)) ?_
        with_reducible refine (laws_eqTerm.calls ((rd_T39 l0 x5_1).f0) ((rd_T39 l0 x5_1).f1) ((rd_T39 l1 x5_1).f0) ((rd_T39 l1 x5_1).f1) true _ A7.out).mono ?_
        rintro e w10 ⟨rfl, hb⟩
        refine ⟨_, rfl, ?_⟩
        have n0_ := Aside0.mk (below_step (bW) hb)
        clear HB
        have HB := n0_
        clear n0_
        (try clear hb)
        (try clear hb2)
        (try clear hk)
        (try clear hi)
        refine hK.out _ _ ⟨((HB.out.cell (World.block_lt_of_cell? w _ hw205_0)).trans hw205_0), ((HB.out.cell (World.block_lt_of_cell? w _ hw205_1)).trans hw205_1), ((HB.out.cell (World.block_lt_of_cell? w _ hw206_0)).trans hw206_0), ((HB.out.cell (World.block_lt_of_cell? w _ hw206_1)).trans hw206_1)⟩ (fun hHeld => ?_)
        clear hK K
        refine norm_ (a' := ?_) ?_ ?_
        rotate_left
        ·show Act.put _ (some 25) _ = _
         simp only [Act.put, List.setIfInBounds_toArray, List.set_cons_zero, List.set_cons_succ, i64_w, i32_w]
         rfl
        refine pure_ (i := 9) (N := some 26) (v := ?_) (a' := ?_) #[true, true, true, true, true, true, true, true, true, true] rfl rfl (any_of HT_.out (by kernel_rfl)) (fun _ _ _ h => h) (Or.inl ⟨by rfl, ?_⟩) ?_ ?_
        rotate_left
        ·intro w'
         go_simp
         with_reducible rfl
        rotate_left
        ·simp only [Act.put, List.setIfInBounds_toArray, List.set_cons_zero, List.set_cons_succ, i64_w, i32_w]
         rfl
        refine done_ (done_of HT_.out (by kernel_rfl)) ?_
        try go_wp2
        go_roundg k1
        case measure => have := HK1.out; omega
        case rel => exact ⟨(wrap64 (x5_1 + 1)), (eW), H', ⟨by have := HK1.out; omega⟩, ⟨bW⟩⟩
       ·replace c8 := Bool.eq_false_iff.mpr c8
        subst c8
        have H1 : (some false) = some r := by rw [if_neg (show ¬ (false = true) by decide)] at H; exact H
        clear H
        have H := H1
        clear H1
        obtain rfl := Option.some.inj H
        try go_wp2
        have n0_ := Aside0.mk (below_drew1 HB.out)
        clear HB
        have HB := n0_
        clear n0_
        have p205 : 0 ≤ (x5_1 : Int) := ofD
        have q205 : x5_1 < (l0.length : Int) := ofD
        obtain ⟨ad205, e205, hx205_0, hx205_1⟩ := at_T39 HR0.out x5_1 p205 q205
        have hw205_1 := hx205_1
        have hw205_0 := hx205_0
        cases e205
        replace hx205_0 := (HB.out.cell (World.block_lt_of_cell? w _ hx205_0)).trans hx205_0
        replace hx205_1 := (HB.out.cell (World.block_lt_of_cell? w _ hx205_1)).trans hx205_1
        replace p205 := eq_true p205
        replace q205 := eq_true q205
        have p206 : 0 ≤ (x5_1 : Int) := ofD
        have q206 : x5_1 < (l1.length : Int) := ofD
        obtain ⟨ad206, e206, hx206_0, hx206_1⟩ := at_T39 HR1.out x5_1 p206 q206
        have hw206_1 := hx206_1
        have hw206_0 := hx206_0
        cases e206
        replace hx206_0 := (HB.out.cell (World.block_lt_of_cell? w _ hx206_0)).trans hx206_0
        replace hx206_1 := (HB.out.cell (World.block_lt_of_cell? w _ hx206_1)).trans hx206_1
        replace p206 := eq_true p206
        replace q206 := eq_true q206
        refine start_ (n := 10) (S := fun w' => w'.cell? (ad205.add ((x5_1).toNat * 2)) = some (.int .i64 ((rd_T39 l0 x5_1).f0)) ∧ w'.cell? ⟨(ad205.add ((x5_1).toNat * 2)).block, (ad205.add ((x5_1).toNat * 2)).off + 1, none⟩ = some (.int .i64 ((rd_T39 l0 x5_1).f1)) ∧ w'.cell? (ad206.add ((x5_1).toNat * 2)) = some (.int .i64 ((rd_T39 l1 x5_1).f0)) ∧ w'.cell? ⟨(ad206.add ((x5_1).toNat * 2)).block, (ad206.add ((x5_1).toNat * 2)).off + 1, none⟩ = some (.int .i64 ((rd_T39 l1 x5_1).f1))) (ds := []) #[false, false, false, false, false, false, false, false, false, false] (by kernel_rfl) rfl rfl ⟨((HB.out.cell (World.block_lt_of_cell? w _ hw205_0)).trans hw205_0), ((HB.out.cell (World.block_lt_of_cell? w _ hw205_1)).trans hw205_1), ((HB.out.cell (World.block_lt_of_cell? w _ hw206_0)).trans hw206_0), ((HB.out.cell (World.block_lt_of_cell? w _ hw206_1)).trans hw206_1)⟩ (fun hHeld => ?_); refine with_tabW laws_eqTermS.tab6 laws_eqTermS.bits6 (fun HT_ HW_ => ?_)
        generalize wr.drew = w11 at HB hx205_0 hx205_1 hx206_0 hx206_1 hHeld ⊢
        refine pure_ (i := 0) (N := some 17) (v := ?_) (a' := ?_) #[true, false, false, false, false, false, false, false, false, false] rfl rfl (any_of HT_.out (by kernel_rfl)) (fun _ _ _ h => h) (Or.inl ⟨by rfl, ?_⟩) ?_ ?_
        rotate_left
        ·intro w'
         go_simp
         with_reducible rfl
        rotate_left
        ·simp only [Act.put, List.setIfInBounds_toArray, List.set_cons_zero, List.set_cons_succ, i64_w, i32_w]
         rfl
        refine pure_ (i := 1) (N := some 18) (v := ?_) (a' := ?_) #[true, true, false, false, false, false, false, false, false, false] rfl rfl (any_of HT_.out (by kernel_rfl)) (fun _ _ _ h => h) (Or.inl ⟨by rfl, ?_⟩) ?_ ?_
        rotate_left
        ·intro w'
         go_simp
         with_reducible rfl
        rotate_left
        ·simp only [Act.put, List.setIfInBounds_toArray, List.set_cons_zero, List.set_cons_succ, i64_w, i32_w]
         rfl
        refine pure_ (i := 2) (N := some 19) (v := ?_) (a' := ?_) #[true, true, true, false, false, false, false, false, false, false] rfl rfl (any_of HT_.out (by kernel_rfl)) (fun _ _ _ h => h) (Or.inl ⟨by rfl, ?_⟩) ?_ ?_
        rotate_left
        ·intro w'
         go_simp
         with_reducible rfl
        rotate_left
        ·simp only [Act.put, List.setIfInBounds_toArray, List.set_cons_zero, List.set_cons_succ, i64_w, i32_w]
         rfl
        refine pure_ (i := 4) (N := some 21) (v := ?_) (a' := ?_) #[true, true, true, false, true, false, false, false, false, false] rfl rfl (any_of HT_.out (by kernel_rfl)) (fun _ _ _ h => h) (Or.inl ⟨by rfl, ?_⟩) ?_ ?_
        rotate_left
        ·intro w'
         go_simp
         with_reducible rfl
        rotate_left
        ·simp only [Act.put, List.setIfInBounds_toArray, List.set_cons_zero, List.set_cons_succ, i64_w, i32_w]
         rfl
        refine pure_ (i := 5) (N := some 22) (v := ?_) (a' := ?_) #[true, true, true, false, true, true, false, false, false, false] rfl rfl (any_of HT_.out (by kernel_rfl)) (fun _ _ _ h => h) (Or.inl ⟨by rfl, ?_⟩) ?_ ?_
        rotate_left
        ·intro w'
         go_simp
         with_reducible rfl
        rotate_left
        ·simp only [Act.put, List.setIfInBounds_toArray, List.set_cons_zero, List.set_cons_succ, i64_w, i32_w]
         rfl
        refine pure_ (i := 6) (N := some 23) (v := ?_) (a' := ?_) #[true, true, true, false, true, true, true, false, false, false] rfl rfl (any_of HT_.out (by kernel_rfl)) (fun _ _ _ h => h) (Or.inl ⟨by rfl, ?_⟩) ?_ ?_
        rotate_left
        ·intro w'
         go_simp
         with_reducible rfl
        rotate_left
        ·simp only [Act.put, List.setIfInBounds_toArray, List.set_cons_zero, List.set_cons_succ, i64_w, i32_w]
         rfl
        refine take_ (i := 3) (N := some 20) (v := ?_) (a' := ?_) #[true, true, true, true, true, true, true, false, false, false] rfl rfl (take_ofW HT_.out HW_.out (by kernel_rfl)) (fun _ _ _ h => h) (Or.inl ⟨by rfl, ?_⟩) hHeld ?_ ?_
        rotate_left
        ·rintro w' ⟨s0, s1, s2, s3⟩
         go_simp
         with_reducible rfl
        rotate_left
        ·simp only [Act.put, List.setIfInBounds_toArray, List.set_cons_zero, List.set_cons_succ, i64_w, i32_w]
         rfl
        refine take_ (i := 7) (N := some 24) (v := ?_) (a' := ?_) #[true, true, true, true, true, true, true, true, false, false] rfl rfl (take_ofW HT_.out HW_.out (by kernel_rfl)) (fun _ _ _ h => h) (Or.inl ⟨by rfl, ?_⟩) hHeld ?_ ?_
        rotate_left
        ·rintro w' ⟨s0, s1, s2, s3⟩
         go_simp
         with_reducible rfl
        rotate_left
        ·simp only [Act.put, List.setIfInBounds_toArray, List.set_cons_zero, List.set_cons_succ, i64_w, i32_w]
         rfl
        refine one_ (i := 8) (N := some 25) #[true, true, true, true, true, true, true, true, true, false] rfl rfl (one_of HT_.out (by kernel_rfl)) (by decide) (fun K hK => ?_)
        refine goes_ Tryd.func21 (by kernel_rfl) rfl #[.agg #[.int .i64 ((rd_T39 l0 x5_1).f0), .int .i64 ((rd_T39 l0 x5_1).f1)], .agg #[.int .i64 ((rd_T39 l1 x5_1).f0), .int .i64 ((rd_T39 l1 x5_1).f1)]] (by rfl) rfl rfl (by (try simp only [List.map_toArray, List.map_cons, List.map_nil]); first | done | rfl | (simp only [List.length_drop, List.length_take]; rfl)) ?_
        with_reducible refine (laws_eqTerm.calls ((rd_T39 l0 x5_1).f0) ((rd_T39 l0 x5_1).f1) ((rd_T39 l1 x5_1).f0) ((rd_T39 l1 x5_1).f1) false _ A7.out).mono ?_
        rintro e w12 ⟨rfl, hb⟩
        refine ⟨_, rfl, ?_⟩
        have n0_ := Aside0.mk (below_step (bW) hb)
        clear HB
        have HB := n0_
        clear n0_
        (try clear hb)
        (try clear hb2)
        (try clear hk)
        (try clear hi)
        refine hK.out _ _ ⟨((HB.out.cell (World.block_lt_of_cell? w _ hw205_0)).trans hw205_0), ((HB.out.cell (World.block_lt_of_cell? w _ hw205_1)).trans hw205_1), ((HB.out.cell (World.block_lt_of_cell? w _ hw206_0)).trans hw206_0), ((HB.out.cell (World.block_lt_of_cell? w _ hw206_1)).trans hw206_1)⟩ (fun hHeld => ?_)
        clear hK K
        refine norm_ (a' := ?_) ?_ ?_
        rotate_left
        ·show Act.put _ (some 25) _ = _
         simp only [Act.put, List.setIfInBounds_toArray, List.set_cons_zero, List.set_cons_succ, i64_w, i32_w]
         rfl
        refine pure_ (i := 9) (N := some 26) (v := ?_) (a' := ?_) #[true, true, true, true, true, true, true, true, true, true] rfl rfl (any_of HT_.out (by kernel_rfl)) (fun _ _ _ h => h) (Or.inl ⟨by rfl, ?_⟩) ?_ ?_
        rotate_left
        ·intro w'
         go_simp
         with_reducible rfl
        rotate_left
        ·simp only [Act.put, List.setIfInBounds_toArray, List.set_cons_zero, List.set_cons_succ, i64_w, i32_w]
         rfl
        refine done_ (done_of HT_.out (by kernel_rfl)) ?_
        try go_wp2
        go_ret
        exact ⟨eW, bW⟩
      ·rw [if_neg c6] at H
       exact absurd H (by simp)
     ·rw [if_neg c5] at H
      exact absurd H (by simp)
    ·rw [if_neg c4] at H
     have c4b0 : decide (x5_1 < (l0.length : Int)) = false := decide_eq_false c4
     clear c4
     obtain rfl := Option.some.inj H
     go_wp2
     go_ret
     exact ⟨eW, bW⟩
 ·rw [if_neg c3] at H
  have c3b0 : ((l0.length : Int) == (l1.length : Int)) = false := beq_eq_false_iff_ne.mpr c3
  have c3b1 : ((l0.length : Int) != (l1.length : Int)) = true := bne_iff_ne.mpr c3
  have c3b2 : (l0.length == l1.length) = false := by first | simpa using c3 | (simp at c3 ⊢; omega)
  obtain rfl := Option.some.inj H
  go_enter Tryd.func11, Tryd.ntmps11
  go_wp2
  go_ret
  exact ⟨eW, bW⟩

end Go.Proofs.YtcibmpomidhgiaaDoor.P
end M0
section M1
namespace Go.Proofs.YtcibmpomidhgiaaDoor.P
open Go.RowKit Go.Proofs.YtcibmpomidhgiaaDoor.Sh Go.Proofs.YtcibmpomidhgiaaDoorW.PrintWords Go.Proofs.YtcibmpomidhgiaaDoorW.PrintLast Go.Proofs.YtcibmpomidhgiaaDoorW.PrintMore
attribute [local go_sem] max2_int min2_int max_two min_two max_three min_three max_four min_four   -- for this text's walks alone
set_option linter.unusedVariables false
set_option linter.unusedSimpArgs false

/-! ### laws_FnExactIsExpression: function 3 -/
def laws_FnExactIsExpression.f (k : Nat) (a0_0 : Int) (l0_1 : List Int) (l1 : List (S44)) : Option (Bool) := (laws_szAlphabet.f a0_0 l0_1 1048576).bind fun t209 => (if t209 < 0 then (some true) else ((laws_szTermS.f l1 t209).bind fun t210 => (if t210 < 0 then (some true) else ((laws_toAlphabet.f k a0_0 l0_1).bind fun bt211 => ((laws_toTermS.f k l1).bind fun t215 => ((spec_IsExpression.f k bt211.1 bt211.2 t215).bind fun t218 => ((laws_toAlphabet.f k a0_0 l0_1).bind fun bt219 => ((laws_toTermS.f k l1).bind fun t224 => ((impl_IsExpression.f k bt219.1 bt219.2 t224).bind fun t227 => (if (t227 != t218) = true then (some false) else ((laws_toAlphabet.f k a0_0 l0_1).bind fun bt228 => ((laws_eqAlphabet.f k bt219.1 bt219.2 bt228.1 bt228.2).bind fun t232 => (if t232 = true then ((laws_toTermS.f k l1).bind fun t233 => ((laws_eqTermS.f k t224 t233).bind fun t236 => (if t236 = true then (some true) else (some false)))) else (some false))))))))))))))
theorem laws_FnExactIsExpression.mono : ∀ a0 a1 a2 k, LeO (laws_FnExactIsExpression.f k a0 a1 a2) (laws_FnExactIsExpression.f (k + 1) a0 a1 a2) := by
 intro a0 a1 a2 k
 unfold laws_FnExactIsExpression.f
 repeat' first
   | (with_reducible exact impl_IsExpression.mono _ _ _ _)
   | (with_reducible exact laws_eqAlphabet.mono _ _ _ _ _)
   | (with_reducible exact laws_eqTermS.mono _ _ _)
   | (with_reducible exact laws_toAlphabet.mono _ _ _)
   | (with_reducible exact laws_toTermS.mono _ _)
   | (with_reducible exact spec_IsExpression.mono _ _ _ _)
   | (with_reducible exact LeO.refl _)
   | (with_reducible exact LeO.none _)
   | (with_reducible refine LeO.ite ?_ ?_)
   | (with_reducible refine LeO.bind ?_ (fun _ => ?_))
   | exact impl_IsExpression.mono _ _ _ _
   | exact laws_eqAlphabet.mono _ _ _ _ _
   | exact laws_eqTermS.mono _ _ _
   | exact laws_toAlphabet.mono _ _ _
   | exact laws_toTermS.mono _ _
   | exact spec_IsExpression.mono _ _ _ _
   | exact LeO.none _
   | refine LeO.ite ?_ ?_
   | refine LeO.bind ?_ (fun _ => ?_)
set_option maxHeartbeats 8000000 in
set_option maxRecDepth 100000 in
theorem laws_FnExactIsExpression.calls (k : Nat) (a0_0 : Int) (A0_1 : Option Addr) (c0_1 : Nat) (l0_1 : List Int) (A1 : Option Addr) (c1 : Nat) (l1 : List (S44)) (r : Bool) (w : World) (hr0_1 : Kd.C (Kd.int .i64) w A0_1 l0_1.length l0_1) (hc0_1 : l0_1.length ≤ c0_1) (hr1 : Kd.C k44 w A1 l1.length l1) (hc1 : l1.length ≤ c1) (h : laws_FnExactIsExpression.f k a0_0 l0_1 l1 = some r) (hT_ : r = true) (hTab : Tab w) :
  Calls Tryd.prog 3 #[.agg #[.int .i64 a0_0, .slice A0_1 l0_1.length c0_1], .slice A1 l1.length c1] w fun e w' => e = .returned (.bool r) ∧ Below w.heap.size w w' := by
 have HTab := Aside0.mk hTab
 clear hTab
 have HT_ := Aside0.mk hT_
 clear hT_
 have hu24 := Tryd.underlying24
 have hu29 := Tryd.underlying29
 have HR0_1 := Aside0.mk hr0_1
 have HC0_1 := Aside0.mk hc0_1
 clear hr0_1 hc0_1
 have HR1 := Aside0.mk hr1
 have HC1 := Aside0.mk hc1
 clear hr1 hc1
 have HB := Aside0.mk (Below.refl w.heap.size w)
 have H : ((laws_szAlphabet.f a0_0 l0_1 1048576).bind fun t209 => (if t209 < 0 then (some true) else ((laws_szTermS.f l1 t209).bind fun t210 => (if t210 < 0 then (some true) else ((laws_toAlphabet.f k a0_0 l0_1).bind fun bt211 => ((laws_toTermS.f k l1).bind fun t215 => ((spec_IsExpression.f k bt211.1 bt211.2 t215).bind fun t218 => ((laws_toAlphabet.f k a0_0 l0_1).bind fun bt219 => ((laws_toTermS.f k l1).bind fun t224 => ((impl_IsExpression.f k bt219.1 bt219.2 t224).bind fun t227 => (if (t227 != t218) = true then (some false) else ((laws_toAlphabet.f k a0_0 l0_1).bind fun bt228 => ((laws_eqAlphabet.f k bt219.1 bt219.2 bt228.1 bt228.2).bind fun t232 => (if t232 = true then ((laws_toTermS.f k l1).bind fun t233 => ((laws_eqTermS.f k t224 t233).bind fun t236 => (if t236 = true then (some true) else (some false)))) else (some false))))))))))))))) = some r := h
 clear h
 replace H := Option.bind_eq_some_iff.mp H
 obtain ⟨t209, A30, H⟩ := H
 replace H : (if t209 < 0 then (some true) else ((laws_szTermS.f l1 t209).bind fun t210 => (if t210 < 0 then (some true) else ((laws_toAlphabet.f k a0_0 l0_1).bind fun bt211 => ((laws_toTermS.f k l1).bind fun t215 => ((spec_IsExpression.f k bt211.1 bt211.2 t215).bind fun t218 => ((laws_toAlphabet.f k a0_0 l0_1).bind fun bt219 => ((laws_toTermS.f k l1).bind fun t224 => ((impl_IsExpression.f k bt219.1 bt219.2 t224).bind fun t227 => (if (t227 != t218) = true then (some false) else ((laws_toAlphabet.f k a0_0 l0_1).bind fun bt228 => ((laws_eqAlphabet.f k bt219.1 bt219.2 bt228.1 bt228.2).bind fun t232 => (if t232 = true then ((laws_toTermS.f k l1).bind fun t233 => ((laws_eqTermS.f k t224 t233).bind fun t236 => (if t236 = true then (some true) else (some false)))) else (some false)))))))))))))) = some r := H
 have A3 := Aside0.mk A30
 clear A30
 by_cases c4 : t209 < 0
 ·rw [if_pos c4] at H
  have c4b0 : decide (t209 < 0) = true := decide_eq_true c4
  clear c4
  obtain rfl := Option.some.inj H
  go_enter Tryd.func3, Tryd.ntmps3
  go_wp2_with (first | ((with_reducible refine gate_dst (N := 2) rfl ?_); refine boxS (N := 2) (cs := #[.int .i64 a0_0, .slice A0_1 l0_1.length c0_1]) (t := 24) ?_; intro gb208 hg w5 hbox hb; have n0_ := Aside0.mk (below_step (bW) hb); have n1_ := Aside0.mk (hbox); have n2_ := geW (w := w) hg; have n3_ := geW (w := w) hg; clear HB; have HB := n0_; have BK208 := n1_; have GW208 := n2_; have GE208 := n3_; clear n0_ n1_ n2_ n3_; clear hb hbox hg; obtain ⟨hcz6_0, hcz6_1⟩ := cells2 BK208.out; obtain ⟨hfz6_0, hfz6_1⟩ := frz2 BK208.out) | ((with_reducible refine gate_callee (f := 4) rfl ?_); refine goesS (some 12) Tryd.func4 #[.agg #[.int .i64 a0_0, .slice A0_1 l0_1.length c0_1], .int .i64 1048576] ?_; (with_reducible refine (laws_szAlphabet.calls a0_0 _ _ l0_1 1048576 t209 _ ?side1 ?side2 A3.out).mono ?_); (case side1 => exact cP (Kd.C_below HR0_1.out HB.out)); (case side2 => exact HC0_1.out); rintro e w7 ⟨rfl, hb⟩; refine ⟨_, rfl, ?_⟩; have n0_ := Aside0.mk (blkB BK208.out hb); have n1_ := Aside0.mk (below_step (bW) hb); clear BK208; clear HB; have BK208 := n0_; have HB := n1_; clear n0_ n1_; (try clear hb); (try clear hb2); (try clear hk); (try clear hi)))
  go_ret
  exact ⟨eW, bW⟩
 ·rw [if_neg c4] at H
  have c4b0 : decide (t209 < 0) = false := decide_eq_false c4
  clear c4
  replace H := Option.bind_eq_some_iff.mp H
  obtain ⟨t210, A80, H⟩ := H
  replace H : (if t210 < 0 then (some true) else ((laws_toAlphabet.f k a0_0 l0_1).bind fun bt211 => ((laws_toTermS.f k l1).bind fun t215 => ((spec_IsExpression.f k bt211.1 bt211.2 t215).bind fun t218 => ((laws_toAlphabet.f k a0_0 l0_1).bind fun bt219 => ((laws_toTermS.f k l1).bind fun t224 => ((impl_IsExpression.f k bt219.1 bt219.2 t224).bind fun t227 => (if (t227 != t218) = true then (some false) else ((laws_toAlphabet.f k a0_0 l0_1).bind fun bt228 => ((laws_eqAlphabet.f k bt219.1 bt219.2 bt228.1 bt228.2).bind fun t232 => (if t232 = true then ((laws_toTermS.f k l1).bind fun t233 => ((laws_eqTermS.f k t224 t233).bind fun t236 => (if t236 = true then (some true) else (some false)))) else (some false)))))))))))) = some r := H
  have A8 := Aside0.mk A80
  clear A80
  by_cases c9 : t210 < 0
  ·rw [if_pos c9] at H
   have c9b0 : decide (t210 < 0) = true := decide_eq_true c9
   clear c9
   obtain rfl := Option.some.inj H
   go_enter Tryd.func3, Tryd.ntmps3
   go_wp2_with (first | ((with_reducible refine gate_dst (N := 2) rfl ?_); refine boxS (N := 2) (cs := #[.int .i64 a0_0, .slice A0_1 l0_1.length c0_1]) (t := 24) ?_; intro gb208 hg w10 hbox hb; have n0_ := Aside0.mk (below_step (bW) hb); have n1_ := Aside0.mk (hbox); have n2_ := geW (w := w) hg; have n3_ := geW (w := w) hg; clear HB; have HB := n0_; have BK208 := n1_; have GW208 := n2_; have GE208 := n3_; clear n0_ n1_ n2_ n3_; clear hb hbox hg; obtain ⟨hcz11_0, hcz11_1⟩ := cells2 BK208.out; obtain ⟨hfz11_0, hfz11_1⟩ := frz2 BK208.out) | ((with_reducible refine gate_callee (f := 4) rfl ?_); refine goesS (some 12) Tryd.func4 #[.agg #[.int .i64 a0_0, .slice A0_1 l0_1.length c0_1], .int .i64 1048576] ?_; (with_reducible refine (laws_szAlphabet.calls a0_0 _ _ l0_1 1048576 t209 _ ?side1 ?side2 A3.out).mono ?_); (case side1 => exact cP (Kd.C_below HR0_1.out HB.out)); (case side2 => exact HC0_1.out); rintro e w12 ⟨rfl, hb⟩; refine ⟨_, rfl, ?_⟩; have n0_ := Aside0.mk (blkB BK208.out hb); have n1_ := Aside0.mk (below_step (bW) hb); clear BK208; clear HB; have BK208 := n0_; have HB := n1_; clear n0_ n1_; (try clear hb); (try clear hb2); (try clear hk); (try clear hi)) | ((with_reducible refine gate_callee (f := 5) rfl ?_); refine goesS (some 17) Tryd.func5 #[.slice A1 l1.length c1, .int .i64 t209] ?_; (with_reducible refine (laws_szTermS.calls _ _ l1 t209 t210 _ ?side1 ?side2 A8.out).mono ?_); (case side1 => exact cP (Kd.C_below HR1.out HB.out)); (case side2 => exact HC1.out); rintro e w' ⟨rfl, ⟨nd, rfl⟩⟩; refine ⟨_, rfl, ?_⟩))
   go_ret
   exact ⟨eW, bW⟩
  ·rw [if_neg c9] at H
   have c9b0 : decide (t210 < 0) = false := decide_eq_false c9
   clear c9
   replace H := Option.bind_eq_some_iff.mp H
   obtain ⟨⟨t211, t212⟩, A130, H⟩ := H
   replace H : ((laws_toTermS.f k l1).bind fun t215 => ((spec_IsExpression.f k t211 t212 t215).bind fun t218 => ((laws_toAlphabet.f k a0_0 l0_1).bind fun bt219 => ((laws_toTermS.f k l1).bind fun t224 => ((impl_IsExpression.f k bt219.1 bt219.2 t224).bind fun t227 => (if (t227 != t218) = true then (some false) else ((laws_toAlphabet.f k a0_0 l0_1).bind fun bt228 => ((laws_eqAlphabet.f k bt219.1 bt219.2 bt228.1 bt228.2).bind fun t232 => (if t232 = true then ((laws_toTermS.f k l1).bind fun t233 => ((laws_eqTermS.f k t224 t233).bind fun t236 => (if t236 = true then (some true) else (some false)))) else (some false)))))))))) = some r := H
   have A13 := Aside0.mk A130
   clear A130
   replace H := Option.bind_eq_some_iff.mp H
   obtain ⟨t215, A140, H⟩ := H
   replace H : ((spec_IsExpression.f k t211 t212 t215).bind fun t218 => ((laws_toAlphabet.f k a0_0 l0_1).bind fun bt219 => ((laws_toTermS.f k l1).bind fun t224 => ((impl_IsExpression.f k bt219.1 bt219.2 t224).bind fun t227 => (if (t227 != t218) = true then (some false) else ((laws_toAlphabet.f k a0_0 l0_1).bind fun bt228 => ((laws_eqAlphabet.f k bt219.1 bt219.2 bt228.1 bt228.2).bind fun t232 => (if t232 = true then ((laws_toTermS.f k l1).bind fun t233 => ((laws_eqTermS.f k t224 t233).bind fun t236 => (if t236 = true then (some true) else (some false)))) else (some false))))))))) = some r := H
   have A14 := Aside0.mk A140
   clear A140
   replace H := Option.bind_eq_some_iff.mp H
   obtain ⟨t218, A150, H⟩ := H
   replace H : ((laws_toAlphabet.f k a0_0 l0_1).bind fun bt219 => ((laws_toTermS.f k l1).bind fun t224 => ((impl_IsExpression.f k bt219.1 bt219.2 t224).bind fun t227 => (if (t227 != t218) = true then (some false) else ((laws_toAlphabet.f k a0_0 l0_1).bind fun bt228 => ((laws_eqAlphabet.f k bt219.1 bt219.2 bt228.1 bt228.2).bind fun t232 => (if t232 = true then ((laws_toTermS.f k l1).bind fun t233 => ((laws_eqTermS.f k t224 t233).bind fun t236 => (if t236 = true then (some true) else (some false)))) else (some false)))))))) = some r := H
   have A15 := Aside0.mk A150
   clear A150
   replace H := Option.bind_eq_some_iff.mp H
   obtain ⟨⟨t219, t220⟩, A160, H⟩ := H
   replace H : ((laws_toTermS.f k l1).bind fun t224 => ((impl_IsExpression.f k t219 t220 t224).bind fun t227 => (if (t227 != t218) = true then (some false) else ((laws_toAlphabet.f k a0_0 l0_1).bind fun bt228 => ((laws_eqAlphabet.f k t219 t220 bt228.1 bt228.2).bind fun t232 => (if t232 = true then ((laws_toTermS.f k l1).bind fun t233 => ((laws_eqTermS.f k t224 t233).bind fun t236 => (if t236 = true then (some true) else (some false)))) else (some false))))))) = some r := H
   have A16 := Aside0.mk A160
   clear A160
   replace H := Option.bind_eq_some_iff.mp H
   obtain ⟨t224, A170, H⟩ := H
   replace H : ((impl_IsExpression.f k t219 t220 t224).bind fun t227 => (if (t227 != t218) = true then (some false) else ((laws_toAlphabet.f k a0_0 l0_1).bind fun bt228 => ((laws_eqAlphabet.f k t219 t220 bt228.1 bt228.2).bind fun t232 => (if t232 = true then ((laws_toTermS.f k l1).bind fun t233 => ((laws_eqTermS.f k t224 t233).bind fun t236 => (if t236 = true then (some true) else (some false)))) else (some false)))))) = some r := H
   have A17 := Aside0.mk A170
   clear A170
   replace H := Option.bind_eq_some_iff.mp H
   obtain ⟨t227, A180, H⟩ := H
   replace H : (if (t227 != t218) = true then (some false) else ((laws_toAlphabet.f k a0_0 l0_1).bind fun bt228 => ((laws_eqAlphabet.f k t219 t220 bt228.1 bt228.2).bind fun t232 => (if t232 = true then ((laws_toTermS.f k l1).bind fun t233 => ((laws_eqTermS.f k t224 t233).bind fun t236 => (if t236 = true then (some true) else (some false)))) else (some false))))) = some r := H
   have A18 := Aside0.mk A180
   clear A180
   by_cases c19 : (t227 != t218) = true
   ·rw [if_pos c19] at H
    have c19b0 : (t227 != t218) = true := c19
    (try (have c19b1 : decide (t227 = t218) = false := by simpa using c19))
    (try (have c19b2 : (t227 == t218) = false := by simpa using c19))
    (try (have c19b3 : ¬ (t227 = t218) := by simpa using c19))
    clear c19
    exact absurd (Option.some.inj H) (by rw [HT_.out]; decide)
   ·rw [if_neg c19] at H
    have c19b0 : (t227 != t218) = false := by simpa using c19
    (try (have c19b1 : decide (t227 = t218) = true := by simpa using c19))
    (try (have c19b2 : (t227 == t218) = true := by simpa using c19))
    clear c19
    replace H := Option.bind_eq_some_iff.mp H
    obtain ⟨⟨t228, t229⟩, A200, H⟩ := H
    replace H : ((laws_eqAlphabet.f k t219 t220 t228 t229).bind fun t232 => (if t232 = true then ((laws_toTermS.f k l1).bind fun t233 => ((laws_eqTermS.f k t224 t233).bind fun t236 => (if t236 = true then (some true) else (some false)))) else (some false))) = some r := H
    have A20 := Aside0.mk A200
    clear A200
    replace H := Option.bind_eq_some_iff.mp H
    obtain ⟨t232, A210, H⟩ := H
    replace H : (if t232 = true then ((laws_toTermS.f k l1).bind fun t233 => ((laws_eqTermS.f k t224 t233).bind fun t236 => (if t236 = true then (some true) else (some false)))) else (some false)) = some r := H
    have A21 := Aside0.mk A210
    clear A210
    by_cases c22 : t232 = true
    ·subst c22
     have H1 : ((laws_toTermS.f k l1).bind fun t233 => ((laws_eqTermS.f k t224 t233).bind fun t236 => (if t236 = true then (some true) else (some false)))) = some r := by rw [if_pos rfl] at H; exact H
     clear H
     have H := H1
     clear H1
     replace H := Option.bind_eq_some_iff.mp H
     obtain ⟨t233, A230, H⟩ := H
     replace H : ((laws_eqTermS.f k t224 t233).bind fun t236 => (if t236 = true then (some true) else (some false))) = some r := H
     have A23 := Aside0.mk A230
     clear A230
     replace H := Option.bind_eq_some_iff.mp H
     obtain ⟨t236, A240, H⟩ := H
     replace H : (if t236 = true then (some true) else (some false)) = some r := H
     have A24 := Aside0.mk A240
     clear A240
     by_cases c25 : t236 = true
     ·subst c25
      have H1 : (some true) = some r := by rw [if_pos rfl] at H; exact H
      clear H
      have H := H1
      clear H1
      obtain rfl := Option.some.inj H
      go_enter Tryd.func3, Tryd.ntmps3
      try go_wp2_with (first | ((with_reducible refine gate_dst (N := 2) rfl ?_); refine boxS (N := 2) (cs := #[.int .i64 a0_0, .slice A0_1 l0_1.length c0_1]) (t := 24) ?_; intro gb208 hg w26 hbox hb; have n0_ := Aside0.mk (below_step (bW) hb); have n1_ := Aside0.mk (hbox); have n2_ := geW (w := w) hg; have n3_ := geW (w := w) hg; clear HB; have HB := n0_; have BK208 := n1_; have GW208 := n2_; have GE208 := n3_; clear n0_ n1_ n2_ n3_; clear hb hbox hg; obtain ⟨hcz27_0, hcz27_1⟩ := cells2 BK208.out; obtain ⟨hfz27_0, hfz27_1⟩ := frz2 BK208.out) | ((with_reducible refine gate_callee (f := 4) rfl ?_); refine goesS (some 12) Tryd.func4 #[.agg #[.int .i64 a0_0, .slice A0_1 l0_1.length c0_1], .int .i64 1048576] ?_; (with_reducible refine (laws_szAlphabet.calls a0_0 _ _ l0_1 1048576 t209 _ ?side1 ?side2 A3.out).mono ?_); (case side1 => exact cP (Kd.C_below HR0_1.out HB.out)); (case side2 => exact HC0_1.out); rintro e w28 ⟨rfl, hb⟩; refine ⟨_, rfl, ?_⟩; have n0_ := Aside0.mk (blkB BK208.out hb); have n1_ := Aside0.mk (below_step (bW) hb); clear BK208; clear HB; have BK208 := n0_; have HB := n1_; clear n0_ n1_; (try clear hb); (try clear hb2); (try clear hk); (try clear hi)) | ((with_reducible refine gate_callee (f := 5) rfl ?_); refine goesS (some 17) Tryd.func5 #[.slice A1 l1.length c1, .int .i64 t209] ?_; (with_reducible refine (laws_szTermS.calls _ _ l1 t209 t210 _ ?side1 ?side2 A8.out).mono ?_); (case side1 => exact cP (Kd.C_below HR1.out HB.out)); (case side2 => exact HC1.out); rintro e w' ⟨rfl, ⟨nd, rfl⟩⟩; refine ⟨_, rfl, ?_⟩; (try ((repeat rw [World.drewN_drewN w28]); (first | generalize hq_ : World.drewN w28 _ = w28 | (rw [drewN_self w28]; generalize hq_ : World.drewN w28 _ = w28)); have n0_ : Aside0 (w28.heap[gb208]? = some (.cells #[.int .i64 a0_0, .slice A0_1 l0_1.length c0_1] 24 (0, 0))) := ⟨by rw [← hq_]; exact (bP BK208.out)⟩; have n1_ : Aside0 (Below w.heap.size w w28) := ⟨by rw [← hq_]; exact (bW)⟩; clear BK208 HB hq_; have BK208 := n0_; have HB := n1_; clear n0_ n1_)); obtain ⟨hcz29_0, hcz29_1⟩ := cells2 BK208.out; obtain ⟨hfz29_0, hfz29_1⟩ := frz2 BK208.out) | ((with_reducible refine gate_callee (f := 7) rfl ?_); refine goesS (some 21) Tryd.func7 #[.agg #[.int .i64 a0_0, .slice A0_1 l0_1.length c0_1]] ?_; (with_reducible refine (laws_toAlphabet.calls k a0_0 _ _ l0_1 t211 t212 _ ?side1 ?side2 A13.out).mono ?_); (case side1 => exact cP (Kd.C_below HR0_1.out HB.out)); (case side2 => exact HC0_1.out); rintro e w30 ⟨v213, rfl, ho0, hb⟩; refine ⟨_, rfl, ?_⟩; have n0_ := Aside0.mk (Kd.R_lower ho0 (below_size (bW))); have n1_ := Aside0.mk (blkB BK208.out hb); have n2_ := Aside0.mk (below_step (bW) hb); clear BK208; clear HB; have HO214 := n0_; have BK208 := n1_; have HB := n2_; clear n0_ n1_ n2_; (try clear hb); (try clear hb2); (try clear hk); (try clear hi); (try clear ho0)) | ((with_reducible refine gate_callee (f := 8) rfl ?_); refine goesS (some 23) Tryd.func8 #[.slice A1 l1.length c1] ?_; (with_reducible refine (laws_toTermS.calls k _ _ l1 t215 _ ?side1 ?side2 A14.out).mono ?_); (case side1 => exact cP (Kd.C_below HR1.out HB.out)); (case side2 => exact HC1.out); rintro e w31 ⟨v216, rfl, ho0, hb⟩; refine ⟨_, rfl, ?_⟩; have n0_ := Aside0.mk (Kd.R_below (rP HO214.out) hb); have n1_ := Aside0.mk (Kd.R_lower ho0 (below_size (bW))); have n2_ := Aside0.mk (blkB BK208.out hb); have n3_ := Aside0.mk (below_step (bW) hb); clear HO214; clear BK208; clear HB; have HO214 := n0_; have HO217 := n1_; have BK208 := n2_; have HB := n3_; clear n0_ n1_ n2_ n3_; (try clear hb); (try clear hb2); (try clear hk); (try clear hi); (try clear ho0); obtain ⟨Ao32, co32, eo32⟩ := Kd.R_slice HO214.out; subst eo32; obtain ⟨Ao33, co33, eo33⟩ := Kd.R_slice HO217.out; subst eo33) | ((with_reducible refine gate_callee (f := 6) rfl ?_); refine goesS (some 24) Tryd.func6 #[.agg #[.int .i64 t211, .slice Ao32 t212.length co32], .slice Ao33 t215.length co33] ?_; (with_reducible refine (spec_IsExpression.calls k t211 _ _ t212 _ _ t215 t218 _ ?side1 ?side2 ?side3 ?side4 A15.out).mono ?_); (case side1 => exact cP ((Kd.R_reads' HO214.out).2.2)); (case side2 => exact (Kd.R_reads' HO214.out).2.1); (case side3 => exact cP ((Kd.R_reads' HO217.out).2.2)); (case side4 => exact (Kd.R_reads' HO217.out).2.1); rintro e w34 ⟨rfl, hb⟩; refine ⟨_, rfl, ?_⟩; have n0_ := Aside0.mk (Kd.R_below (rP HO214.out) hb); have n1_ := Aside0.mk (Kd.R_below (rP HO217.out) hb); have n2_ := Aside0.mk (blkB BK208.out hb); have n3_ := Aside0.mk (below_step (bW) hb); clear HO214; clear HO217; clear BK208; clear HB; have HO214 := n0_; have HO217 := n1_; have BK208 := n2_; have HB := n3_; clear n0_ n1_ n2_ n3_; (try clear hb); (try clear hb2); (try clear hk); (try clear hi); obtain ⟨hcz35_0, hcz35_1⟩ := cells2 BK208.out; obtain ⟨hfz35_0, hfz35_1⟩ := frz2 BK208.out) | ((with_reducible refine gate_callee (f := 7) rfl ?_); refine goesS (some 26) Tryd.func7 #[.agg #[.int .i64 a0_0, .slice A0_1 l0_1.length c0_1]] ?_; (with_reducible refine (laws_toAlphabet.calls k a0_0 _ _ l0_1 t219 t220 _ ?side1 ?side2 A16.out).mono ?_); (case side1 => exact cP (Kd.C_below HR0_1.out HB.out)); (case side2 => exact HC0_1.out); rintro e w36 ⟨v221, rfl, ho0, hb⟩; refine ⟨_, rfl, ?_⟩; have n0_ := Aside0.mk (Kd.R_elder' (rP HO214.out) (Kd.R_base ho0) hb); have n1_ := Aside0.mk (Kd.R_below (rP HO217.out) hb); have n2_ := Aside0.mk (Kd.R_lower (Kd.R_new' ho0 (Kd.R_lt (rP HO214.out))) (below_size (bW))); have n3_ := Aside0.mk (blkB BK208.out hb); have n4_ := Aside0.mk (below_step (bW) hb); clear HO214; clear HO217; clear BK208; clear HB; have HO214 := n0_; have HO217 := n1_; have HO222 := n2_; have BK208 := n3_; have HB := n4_; clear n0_ n1_ n2_ n3_ n4_; (try clear hb); (try clear hb2); (try clear hk); (try clear hi); (try clear ho0)) | ((with_reducible refine gate_dst (N := 7) rfl ?_); refine boxS (N := 7) (cs := #[.int .i64 0, .slice none 0 0]) (t := 29) ?_; intro gb223 hg w37 hbox hb; have n0_ := Aside0.mk (Kd.R_below (rP HO214.out) hb); have n1_ := Aside0.mk (Kd.R_below (rP HO217.out) hb); have n2_ := Aside0.mk (Kd.R_below (rP HO222.out) hb); have n3_ := Aside0.mk (blkB BK208.out hb); have n4_ := Aside0.mk (below_step (bW) hb); have n5_ := Aside0.mk (hbox); have n6_ := geW (w := w) hg; have n7_ := geW (w := w) hg; have n8_ := Aside0.mk ((by rw [hg]; exact Nat.ne_of_lt (blk_lt (g := gb208) (o := .cells #[.int .i64 a0_0, .slice A0_1 l0_1.length c0_1] 24 (0, 0)) (bP BK208.out)) : gb208 ≠ gb223)); have n9_ := Aside0.mk ((by rw [hg]; exact Nat.ne_of_gt (blk_lt (g := gb208) (o := .cells #[.int .i64 a0_0, .slice A0_1 l0_1.length c0_1] 24 (0, 0)) (bP BK208.out)) : gb223 ≠ gb208)); clear HO214; clear HO217; clear HO222; clear BK208; clear HB; have HO214 := n0_; have HO217 := n1_; have HO222 := n2_; have BK208 := n3_; have HB := n4_; have BK223 := n5_; have GW223 := n6_; have GE223 := n7_; have NB208_223 := n8_; have NB223_208 := n9_; clear n0_ n1_ n2_ n3_ n4_ n5_ n6_ n7_ n8_ n9_; clear hb hbox hg; have hnb38 := NB223_208.out; have hnc38 := NB208_223.out; obtain ⟨hcz39_0, hcz39_1⟩ := cells2 BK223.out; obtain ⟨hfz39_0, hfz39_1⟩ := frz2 BK223.out; obtain ⟨Ao40, co40, eo40⟩ := Kd.R_slice HO222.out; subst eo40) | ((with_reducible refine gate_callee (f := 8) rfl ?_); refine goesS (some 28) Tryd.func8 #[.slice A1 l1.length c1] ?_; (with_reducible refine (laws_toTermS.calls k _ _ l1 t224 _ ?side1 ?side2 A17.out).mono ?_); (case side1 => exact Kd.C_below HR1.out (bW)); (case side2 => exact HC1.out); rintro e w41 ⟨v225, rfl, ho0, hb⟩; refine ⟨_, rfl, ?_⟩; have n0_ := Aside0.mk (Kd.R_below (by (with_reducible repeat (first | apply Kd.R_alloc | apply Kd.R_drewN | apply Kd.R_drew)); exact (Kd.R_mono (Kd.R_far (p := ⟨gb223, 1, none⟩) (Kd.R_far (p := ⟨gb223, 0, none⟩) (Kd.R_types HO214.out BK223.out (by decide)) (fun _ hk => hk.2) (.int .i64 t219)) (fun _ hk => hk.2) (.slice Ao40 t220.length co40)) (fun _ h_ => h_.1))) hb); have n1_ := Aside0.mk (Kd.R_elder' (by (with_reducible repeat (first | apply Kd.R_alloc | apply Kd.R_drewN | apply Kd.R_drew)); exact (Kd.R_mono (Kd.R_far (p := ⟨gb223, 1, none⟩) (Kd.R_far (p := ⟨gb223, 0, none⟩) (Kd.R_types HO217.out BK223.out (by decide)) (fun _ hk => hk.2) (.int .i64 t219)) (fun _ hk => hk.2) (.slice Ao40 t220.length co40)) (fun _ h_ => h_.1))) (Kd.R_base ho0) hb); have n2_ := Aside0.mk (Kd.R_below (by (with_reducible repeat (first | apply Kd.R_alloc | apply Kd.R_drewN | apply Kd.R_drew)); exact (Kd.R_mono (Kd.R_far (p := ⟨gb223, 1, none⟩) (Kd.R_far (p := ⟨gb223, 0, none⟩) (Kd.R_types HO222.out BK223.out (by decide)) (fun _ hk => hk.2) (.int .i64 t219)) (fun _ hk => hk.2) (.slice Ao40 t220.length co40)) (fun _ h_ => h_.1))) hb); have n3_ := Aside0.mk (Kd.R_lower (Kd.R_new' ho0 (Kd.R_lt (by (with_reducible repeat (first | apply Kd.R_alloc | apply Kd.R_drewN | apply Kd.R_drew)); exact (Kd.R_mono (Kd.R_far (p := ⟨gb223, 1, none⟩) (Kd.R_far (p := ⟨gb223, 0, none⟩) (Kd.R_types HO217.out BK223.out (by decide)) (fun _ hk => hk.2) (.int .i64 t219)) (fun _ hk => hk.2) (.slice Ao40 t220.length co40)) (fun _ h_ => h_.1))))) (below_size (bW))); have n4_ := Aside0.mk (blk_below (g := gb208) (o := .cells #[.int .i64 a0_0, .slice A0_1 l0_1.length c0_1] 24 (0, 0)) (by (with_reducible repeat (first | refine blk_drewN ?_ _ | refine blk_drew ?_ | refine blk_alloc ?_ _)); refine blk_far ?_ NB208_223.out _; (with_reducible repeat (first | refine blk_drewN ?_ _ | refine blk_drew ?_ | refine blk_alloc ?_ _)); refine blk_far ?_ NB208_223.out _; exact bP BK208.out) hb); have n5_ := Aside0.mk (blk_below (g := gb223) (o := .cells #[.int .i64 t219, .slice Ao40 t220.length co40] 29 (0, 0)) (by (with_reducible repeat (first | refine blk_drewN ?_ _ | refine blk_drew ?_ | refine blk_alloc ?_ _)); refine blk_put (cs := #[.int .i64 t219, .slice none 0 0]) ?_ 1 _ rfl; (with_reducible repeat (first | refine blk_drewN ?_ _ | refine blk_drew ?_ | refine blk_alloc ?_ _)); refine blk_put (cs := #[.int .i64 0, .slice none 0 0]) ?_ 0 _ rfl; exact bP BK223.out) hb); have n6_ := Aside0.mk (below_step (bW) hb); clear HO214; clear HO217; clear HO222; clear BK208; clear BK223; clear HB; have HO214 := n0_; have HO217 := n1_; have HO222 := n2_; have HO226 := n3_; have BK208 := n4_; have BK223 := n5_; have HB := n6_; clear n0_ n1_ n2_ n3_ n4_ n5_ n6_; (try clear hb); (try clear hb2); (try clear hk); (try clear hi); (try clear ho0); obtain ⟨hcz42_0, hcz42_1⟩ := cells2 BK223.out; obtain ⟨hfz42_0, hfz42_1⟩ := frz2 BK223.out; obtain ⟨Ao43, co43, eo43⟩ := Kd.R_slice HO226.out; subst eo43) | ((with_reducible refine gate_callee (f := 9) rfl ?_); refine goesS (some 31) Tryd.func9 #[.agg #[.int .i64 t219, .slice Ao40 t220.length co40], .slice Ao43 t224.length co43] ?_; (with_reducible refine (impl_IsExpression.calls k t219 _ _ t220 _ _ t224 t227 _ ?side1 ?side2 ?side3 ?side4 A18.out (tabW HTab.out)).mono ?_); (case side1 => exact cP ((Kd.R_reads' HO222.out).2.2)); (case side2 => exact (Kd.R_reads' HO222.out).2.1); (case side3 => exact cP ((Kd.R_reads' HO226.out).2.2)); (case side4 => exact (Kd.R_reads' HO226.out).2.1); rintro e w44 ⟨rfl, hb⟩; refine ⟨_, rfl, ?_⟩; have n0_ := Aside0.mk (Kd.R_below (rP HO214.out) hb); have n1_ := Aside0.mk (Kd.R_below (rP HO217.out) hb); have n2_ := Aside0.mk (Kd.R_below (rP HO222.out) hb); have n3_ := Aside0.mk (Kd.R_below (rP HO226.out) hb); have n4_ := Aside0.mk (blkB BK208.out hb); have n5_ := Aside0.mk (blkB BK223.out hb); have n6_ := Aside0.mk (below_step (bW) hb); clear HO214; clear HO217; clear HO222; clear HO226; clear BK208; clear BK223; clear HB; have HO214 := n0_; have HO217 := n1_; have HO222 := n2_; have HO226 := n3_; have BK208 := n4_; have BK223 := n5_; have HB := n6_; clear n0_ n1_ n2_ n3_ n4_ n5_ n6_; (try clear hb); (try clear hb2); (try clear hk); (try clear hi)))
      have n0_ := Aside0.mk (Kd.R_drew HO214.out)
      have n1_ := Aside0.mk (Kd.R_drew HO217.out)
      have n2_ := Aside0.mk (Kd.R_drew HO222.out)
      have n3_ := Aside0.mk (Kd.R_drew HO226.out)
      have n4_ := Aside0.mk (blk_drew BK208.out)
      have n5_ := Aside0.mk (blk_drew BK223.out)
      have n6_ := Aside0.mk (below_drew1 HB.out)
      clear HO214
      clear HO217
      clear HO222
      clear HO226
      clear BK208
      clear BK223
      clear HB
      have HO214 := n0_
      have HO217 := n1_
      have HO222 := n2_
      have HO226 := n3_
      have BK208 := n4_
      have BK223 := n5_
      have HB := n6_
      clear n0_ n1_ n2_ n3_ n4_ n5_ n6_
      refine start_ (n := 5) (S := fun w' => w'.cell? ⟨gb223, 0, none⟩ = some (.int .i64 t219) ∧ w'.cell? ⟨gb223, 1, none⟩ = some (.slice Ao40 t220.length co40) ∧ w'.cell? ⟨gb208, 0, none⟩ = some (.int .i64 a0_0) ∧ w'.cell? ⟨gb208, 1, none⟩ = some (.slice A0_1 l0_1.length c0_1)) (ds := []) #[false, false, false, false, false] (by kernel_rfl) rfl rfl ⟨(blk_cell BK223.out 0).trans rfl, (blk_cell BK223.out 1).trans rfl, (blk_cell BK208.out 0).trans rfl, (blk_cell BK208.out 1).trans rfl⟩ (fun hHeld => ?_)
      generalize w44.drew = w45 at HO214 HO217 HO222 HO226 BK208 BK223 HB hHeld ⊢
      refine take_ (i := 0) (N := some 35) (v := ?_) (a' := ?_) #[true, false, false, false, false] rfl rfl (by kernel_rfl) (fun _ _ _ h => h) (Or.inl ⟨by rfl, ?_⟩) hHeld ?_ ?_
      rotate_left
      ·rintro w' ⟨s0, s1, s2, s3⟩
       go_simp
       with_reducible rfl
      rotate_left
      ·simp only [Act.put, List.setIfInBounds_toArray, List.set_cons_zero, List.set_cons_succ, i64_w, i32_w]
       rfl
      refine take_ (i := 1) (N := some 36) (v := ?_) (a' := ?_) #[true, true, false, false, false] rfl rfl (by kernel_rfl) (fun _ _ _ h => h) (Or.inl ⟨by rfl, ?_⟩) hHeld ?_ ?_
      rotate_left
      ·rintro w' ⟨s0, s1, s2, s3⟩
       go_simp
       with_reducible rfl
      rotate_left
      ·simp only [Act.put, List.setIfInBounds_toArray, List.set_cons_zero, List.set_cons_succ, i64_w, i32_w]
       rfl
      refine one_ (i := 2) (N := some 37) #[true, true, true, false, false] rfl rfl (by kernel_rfl) (by decide) (fun K hK => ?_)
      refine goes_ Tryd.func7 (by kernel_rfl) rfl #[.agg #[.int .i64 a0_0, .slice A0_1 l0_1.length c0_1]] (by rfl) rfl rfl (by (try simp only [List.map_toArray, List.map_cons, List.map_nil]); first | done | rfl | (simp only [List.length_drop, List.length_take]; rfl)) ?_
      with_reducible refine (laws_toAlphabet.calls k a0_0 _ _ l0_1 t228 t229 _ ?side1 ?side2 A20.out).mono ?_
      (case side1 => exact cP (Kd.C_below HR0_1.out HB.out))
      (case side2 => exact HC0_1.out)
      rintro e w46 ⟨v230, rfl, ho0, hb⟩
      refine ⟨_, rfl, ?_⟩
      have n0_ := Aside0.mk (Kd.R_elder' (rP HO214.out) (Kd.R_base ho0) hb)
      have n1_ := Aside0.mk (Kd.R_below (rP HO217.out) hb)
      have n2_ := Aside0.mk (Kd.R_elder' (rP HO222.out) (Kd.R_base ho0) hb)
      have n3_ := Aside0.mk (Kd.R_below (rP HO226.out) hb)
      have n4_ := Aside0.mk (Kd.R_lower (Kd.R_new' (Kd.R_new' ho0 (Kd.R_lt (rP HO214.out))) (Kd.R_lt (rP HO222.out))) (below_size (bW)))
      have n5_ := Aside0.mk (blkB BK208.out hb)
      have n6_ := Aside0.mk (blkB BK223.out hb)
      have n7_ := Aside0.mk (below_step (bW) hb)
      clear HO214
      clear HO217
      clear HO222
      clear HO226
      clear BK208
      clear BK223
      clear HB
      have HO214 := n0_
      have HO217 := n1_
      have HO222 := n2_
      have HO226 := n3_
      have HO231 := n4_
      have BK208 := n5_
      have BK223 := n6_
      have HB := n7_
      clear n0_ n1_ n2_ n3_ n4_ n5_ n6_ n7_
      (try clear hb)
      (try clear hb2)
      (try clear hk)
      (try clear hi)
      (try clear ho0)
      obtain ⟨Ao47, co47, eo47⟩ := Kd.R_slice HO231.out
      (first | subst eo47 | (injection eo47 with f1_ f2_ f3_; have f4_ := f1_.symm; have f5_ := f3_.symm; clear f1_ f2_ f3_; subst f4_; subst f5_))
      refine hK.out _ _ ⟨(blk_cell BK223.out 0).trans rfl, (blk_cell BK223.out 1).trans rfl, (blk_cell BK208.out 0).trans rfl, (blk_cell BK208.out 1).trans rfl⟩ (fun hHeld => ?_)
      clear hK K
      refine norm_ (a' := ?_) ?_ ?_
      rotate_left
      ·show Act.put _ (some 37) _ = _
       simp only [Act.put, List.setIfInBounds_toArray, List.set_cons_zero, List.set_cons_succ, i64_w, i32_w]
       rfl
      refine one_ (i := 3) (N := some 38) #[true, true, true, true, false] rfl rfl (by kernel_rfl) (by decide) (fun K hK => ?_)
      refine goes_ Tryd.func10 (by kernel_rfl) rfl #[.agg #[.int .i64 t219, .slice Ao40 t220.length co40], .agg #[.int .i64 t228, .slice Ao47 t229.length co47]] (by rfl) rfl rfl (by (try simp only [List.map_toArray, List.map_cons, List.map_nil]); first | done | rfl | (simp only [List.length_drop, List.length_take]; rfl)) ?_
      with_reducible refine (laws_eqAlphabet.calls k t219 _ _ t220 t228 _ _ t229 true _ ?side1 ?side2 ?side3 ?side4 A21.out).mono ?_
      (case side1 => exact cP ((Kd.R_reads' HO222.out).2.2))
      (case side2 => exact (Kd.R_reads' HO222.out).2.1)
      (case side3 => exact cP ((Kd.R_reads' HO231.out).2.2))
      (case side4 => exact (Kd.R_reads' HO231.out).2.1)
      rintro e w48 ⟨rfl, hb⟩
      refine ⟨_, rfl, ?_⟩
      have n0_ := Aside0.mk (Kd.R_below (rP HO214.out) hb)
      have n1_ := Aside0.mk (Kd.R_below (rP HO217.out) hb)
      have n2_ := Aside0.mk (Kd.R_below (rP HO222.out) hb)
      have n3_ := Aside0.mk (Kd.R_below (rP HO226.out) hb)
      have n4_ := Aside0.mk (Kd.R_below (rP HO231.out) hb)
      have n5_ := Aside0.mk (blkB BK208.out hb)
      have n6_ := Aside0.mk (blkB BK223.out hb)
      have n7_ := Aside0.mk (below_step (bW) hb)
      clear HO214
      clear HO217
      clear HO222
      clear HO226
      clear HO231
      clear BK208
      clear BK223
      clear HB
      have HO214 := n0_
      have HO217 := n1_
      have HO222 := n2_
      have HO226 := n3_
      have HO231 := n4_
      have BK208 := n5_
      have BK223 := n6_
      have HB := n7_
      clear n0_ n1_ n2_ n3_ n4_ n5_ n6_ n7_
      (try clear hb)
      (try clear hb2)
      (try clear hk)
      (try clear hi)
      refine hK.out _ _ ⟨(blk_cell BK223.out 0).trans rfl, (blk_cell BK223.out 1).trans rfl, (blk_cell BK208.out 0).trans rfl, (blk_cell BK208.out 1).trans rfl⟩ (fun hHeld => ?_)
      clear hK K
      refine norm_ (a' := ?_) ?_ ?_
      rotate_left
      ·show Act.put _ (some 38) _ = _
       simp only [Act.put, List.setIfInBounds_toArray, List.set_cons_zero, List.set_cons_succ, i64_w, i32_w]
       rfl
      refine pure_ (i := 4) (N := some 39) (v := ?_) (a' := ?_) #[true, true, true, true, true] rfl rfl (by kernel_rfl) (fun _ _ _ h => h) (Or.inl ⟨by rfl, ?_⟩) ?_ ?_
      rotate_left
      ·intro w'
       go_simp
       with_reducible rfl
      rotate_left
      ·simp only [Act.put, List.setIfInBounds_toArray, List.set_cons_zero, List.set_cons_succ, i64_w, i32_w]
       rfl
      refine done_ (by kernel_rfl) ?_
      try go_wp2_with (first | ((with_reducible refine gate_callee (f := 8) rfl ?_); refine goesS (some 42) Tryd.func8 #[.slice A1 l1.length c1] ?_; (with_reducible refine (laws_toTermS.calls k _ _ l1 t233 _ ?side1 ?side2 A23.out).mono ?_); (case side1 => exact cP (Kd.C_below HR1.out HB.out)); (case side2 => exact HC1.out); rintro e w49 ⟨v234, rfl, ho0, hb⟩; refine ⟨_, rfl, ?_⟩; have n0_ := Aside0.mk (Kd.R_below (rP HO214.out) hb); have n1_ := Aside0.mk (Kd.R_elder' (rP HO217.out) (Kd.R_base ho0) hb); have n2_ := Aside0.mk (Kd.R_below (rP HO222.out) hb); have n3_ := Aside0.mk (Kd.R_elder' (rP HO226.out) (Kd.R_base ho0) hb); have n4_ := Aside0.mk (Kd.R_below (rP HO231.out) hb); have n5_ := Aside0.mk (Kd.R_lower (Kd.R_new' (Kd.R_new' ho0 (Kd.R_lt (rP HO217.out))) (Kd.R_lt (rP HO226.out))) (below_size (bW))); have n6_ := Aside0.mk (blkB BK208.out hb); have n7_ := Aside0.mk (blkB BK223.out hb); have n8_ := Aside0.mk (below_step (bW) hb); clear HO214; clear HO217; clear HO222; clear HO226; clear HO231; clear BK208; clear BK223; clear HB; have HO214 := n0_; have HO217 := n1_; have HO222 := n2_; have HO226 := n3_; have HO231 := n4_; have HO235 := n5_; have BK208 := n6_; have BK223 := n7_; have HB := n8_; clear n0_ n1_ n2_ n3_ n4_ n5_ n6_ n7_ n8_; (try clear hb); (try clear hb2); (try clear hk); (try clear hi); (try clear ho0); obtain ⟨Ao50, co50, eo50⟩ := Kd.R_slice HO235.out; subst eo50) | ((with_reducible refine gate_callee (f := 11) rfl ?_); refine goesS (some 43) Tryd.func11 #[.slice Ao43 t224.length co43, .slice Ao50 t233.length co50] ?_; (with_reducible refine (laws_eqTermS.calls k _ _ t224 _ _ t233 true _ ?side1 ?side2 ?side3 ?side4 A24.out).mono ?_); (case side1 => exact cP ((Kd.R_reads' HO226.out).2.2)); (case side2 => exact (Kd.R_reads' HO226.out).2.1); (case side3 => exact cP ((Kd.R_reads' HO235.out).2.2)); (case side4 => exact (Kd.R_reads' HO235.out).2.1); rintro e w51 ⟨rfl, hb⟩; refine ⟨_, rfl, ?_⟩; have n0_ := Aside0.mk (Kd.R_below (rP HO214.out) hb); have n1_ := Aside0.mk (Kd.R_below (rP HO217.out) hb); have n2_ := Aside0.mk (Kd.R_below (rP HO222.out) hb); have n3_ := Aside0.mk (Kd.R_below (rP HO226.out) hb); have n4_ := Aside0.mk (Kd.R_below (rP HO231.out) hb); have n5_ := Aside0.mk (Kd.R_below (rP HO235.out) hb); have n6_ := Aside0.mk (blkB BK208.out hb); have n7_ := Aside0.mk (blkB BK223.out hb); have n8_ := Aside0.mk (below_step (bW) hb); clear HO214; clear HO217; clear HO222; clear HO226; clear HO231; clear HO235; clear BK208; clear BK223; clear HB; have HO214 := n0_; have HO217 := n1_; have HO222 := n2_; have HO226 := n3_; have HO231 := n4_; have HO235 := n5_; have BK208 := n6_; have BK223 := n7_; have HB := n8_; clear n0_ n1_ n2_ n3_ n4_ n5_ n6_ n7_ n8_; (try clear hb); (try clear hb2); (try clear hk); (try clear hi)))
      go_ret
      exact ⟨eW, bW⟩
     ·replace c25 := Bool.eq_false_iff.mpr c25
      subst c25
      have H1 : (some false) = some r := by rw [if_neg (show ¬ (false = true) by decide)] at H; exact H
      clear H
      have H := H1
      clear H1
      exact absurd (Option.some.inj H) (by rw [HT_.out]; decide)
    ·replace c22 := Bool.eq_false_iff.mpr c22
     subst c22
     have H1 : (some false) = some r := by rw [if_neg (show ¬ (false = true) by decide)] at H; exact H
     clear H
     have H := H1
     clear H1
     exact absurd (Option.some.inj H) (by rw [HT_.out]; decide)

end Go.Proofs.YtcibmpomidhgiaaDoor.P
end M1
section M2
namespace Go.Proofs.YtcibmpomidhgiaaDoor.Op
open Go.RowKit Go.Proofs.YtcibmpomidhgiaaDoorW.PrintWords Go.Proofs.YtcibmpomidhgiaaDoorW.PrintLast Go.Proofs.YtcibmpomidhgiaaDoorW.PrintMore
/-- What is read at type t lies in memory as kind d says. -/
def Opens {α : Type} (P : Program) (t : TypeId) (d : Kd α) (ok : α → Prop) : Prop :=
  ∀ (H : Type) (enc : TypeId × Value → H) (w : World) (base : Nat) (held : Bool) (fuel : Nat) (cs : List Value) (x : DataW H × List MemPlace),
    DataW.trod enc P w base (fun _ => true) held fuel t cs = some x → ∃ a, d.K w a cs ∧ ok a
theorem opens_int {P : Program} {t : TypeId} {k : IntKind} (ht : P.underlying t = some (.int k)) : Opens P t (Kd.int k) (fun n => (Lit.int k n).wf = true) := by
  intro H enc w base held fuel cs x h
  obtain ⟨n, rfl, _, hw⟩ := DataW.trod_int ht h
  exact ⟨n, rfl, hw⟩
theorem opens_slice {α : Type} {P : Program} {t e : TypeId} {d : Kd α} {ok : α → Prop} (ht : P.underlying t = some (.slice e)) (hc : P.cellsOf e = d.sz) (he : Opens P e d ok) :
    Opens P t (Kd.slice e d) (fun xs => xs.length ≤ maxLen ∧ ∀ x ∈ xs, ok x) := by
  intro H enc w base held fuel cs x h
  rcases DataW.trod_slice ht h with ⟨rfl, _⟩ | ⟨a, len, cap, elems, rest, n, _, rfl, _, hb, hl, hm, hlen, hel, _, _⟩
  · exact ⟨[], ⟨none, 0, rfl, Nat.le_refl _, rfl, by simp, fun h => absurd h (by simp)⟩, by simp, by simp⟩
  · have each : ∀ i, i < len → ∃ y : α × List Value, y.2.length = d.sz ∧ d.K w y.1 y.2 ∧ ok y.1 ∧ ∀ j u, y.2[j]? = some u → w.cell? (a.add (i * d.sz + j)) = some u := by
      intro i hi
      have h1 := hel i hi
      rw [List.getElem?_eq_getElem (by omega), Option.bind_eq_some_iff] at h1
      obtain ⟨cs', h2, h3⟩ := h1
      obtain ⟨y, hk, ho⟩ := he _ _ _ _ _ _ _ _ h3
      obtain ⟨_, h5, h6⟩ := World.cells?_some h2
      refine ⟨(y, cs'), h5.trans hc, hk, ho, fun j u hj => ?_⟩
      have hjl : j < P.cellsOf e := by rw [← h5]; exact (List.getElem?_eq_some_iff.1 hj).1
      have h7 := h6 j hjl
      rw [hj, hc] at h7
      rw [← Addr.add_add]
      exact h7
    have hy := fun i : Fin len => Classical.choose_spec (each i.1 i.2)
    generalize hY : (fun i : Fin len => Classical.choose (each i.1 i.2)) = y at hy
    have hy' : ∀ i : Fin len, (y i).2.length = d.sz ∧ d.K w (y i).1 (y i).2 ∧ ok (y i).1 ∧ ∀ j u, (y i).2[j]? = some u → w.cell? (a.add (i.1 * d.sz + j)) = some u := by
      intro i; rw [← hY]; exact hy i
    clear hy hY
    have hln : (List.ofFn fun i => (y i).1).length = len := by simp
    refine ⟨List.ofFn fun i => (y i).1, ⟨some a, cap, by rw [hln], by rw [hln]; exact hl, ?_⟩, by rw [hln]; omega, ?_⟩
    · refine ⟨rfl, by rw [hln]; unfold maxLen at hm; omega, fun _ => ⟨a, rfl, fun j p hj => ?_⟩⟩
      have hjl : j < len := by rw [← hln]; exact (List.getElem?_eq_some_iff.1 hj).1
      rw [List.getElem?_ofFn, dif_pos hjl, Option.some.injEq] at hj
      subst hj
      obtain ⟨q1, q2, _, q4⟩ := hy' ⟨j, hjl⟩
      exact ⟨(y ⟨j, hjl⟩).2, q1, q2, fun i u hi => q4 i u hi⟩
    · intro x hx
      rw [List.mem_ofFn] at hx
      obtain ⟨i, rfl⟩ := hx
      exact (hy' i).2.2.1
/-- An argument that is a slice. -/
theorem open_row {α : Type} {P : Program} {t e : TypeId} {d : Kd α} {ok : List α → Prop} {H : Type} {enc : TypeId × Value → H} {w : World} {base fuel : Nat} {held : Bool} {v : Value} {x : DataW H × List MemPlace}
    (h : DataW.trod enc P w base (fun _ => true) held fuel t [v] = some x) (hs : Opens P t (Kd.slice e d) ok) : ∃ A c xs, v = .slice A xs.length c ∧ xs.length ≤ c ∧ d.C w A xs.length xs ∧ ok xs := by
  obtain ⟨xs, ⟨A, c, hv, hl, hr⟩, ho⟩ := hs _ _ _ _ _ _ _ _ h
  exact ⟨A, c, xs, by simpa using hv, hl, hr, ho⟩
end Go.Proofs.YtcibmpomidhgiaaDoor.Op
end M2
section M3
namespace Go.Proofs.YtcibmpomidhgiaaDoor.P
open Go.RowKit Go.Proofs.YtcibmpomidhgiaaDoor.Op Go.Proofs.YtcibmpomidhgiaaDoorW.PrintWords Go.Proofs.YtcibmpomidhgiaaDoorW.PrintLast Go.ChangeShapes Go.WideShapes Go.ChangeAt Go.Lib Go.Joins Go.ChangeShapes Go.Deep Go.Joins
def okT44 (x : S44) : Prop := ((Lit.int .i64 x.f0).wf = true) ∧ ((Lit.int .i64 x.f1).wf = true)
theorem opensT44 : Opens Tryd.prog 44 k44 okT44 := by
  intro H enc w base held fuel cs x h
  obtain ⟨y0, y1, n_, -, hl, h0, h1⟩ := trod_struct2 Tryd.underlying44 h
  have hc : Tryd.prog.cellsOf 44 = 2 := by kernel_rfl
  have e2 : Tryd.prog.cellsOf 2 = 1 := by kernel_rfl
  rw [hc] at hl
  match cs, hl with
  | [c0, c1], _ =>
    simp only [e2, List.drop, List.take] at h0 h1
    obtain ⟨x0, q0, o0⟩ := (opens_int Tryd.underlying2) _ _ _ _ _ _ _ _ h0
    obtain ⟨x1, q1, o1⟩ := (opens_int Tryd.underlying2) _ _ _ _ _ _ _ _ h1
    exact ⟨⟨x0, x1⟩, ⟨[c0], [c1], rfl, q0, q1⟩, o0, o1⟩
end Go.Proofs.YtcibmpomidhgiaaDoor.P
end M3
section M4
namespace Go.Proofs.YtcibmpomidhgiaaDoor.U
open Go.RowKit Go.Proofs.YtcibmpomidhgiaaDoorW.PrintWords Go.Proofs.YtcibmpomidhgiaaDoorW.PrintLast
set_option linter.unusedVariables false
/-! Small laws of numbers and lists for the plain part: what a printed loop comes to. -/
theorem w64 {n : Int} (h0 : -9223372036854775808 ≤ n) (h1 : n ≤ 9223372036854775807) : wrap64 n = n := by unfold wrap64; omega
theorem w64s {n : Nat} (h : n < 9223372036854775807) : wrap64 ((n : Int) + 1) = ((n + 1 : Nat) : Int) := by unfold wrap64; omega
theorem rdn (l : List Int) (i : Nat) : rd l (i : Int) = l.getD i 0 := rfl
theorem rd_lt {l : List Int} {i : Nat} (h : i < l.length) : rd l (i : Int) = l[i] := by
  show l.getD i 0 = _; rw [List.getD_eq_getElem?_getD, List.getElem?_eq_getElem h]; rfl
/-- One round more, the loop's own equation still to be unfolded. -/
theorem Ev.round {α : Type} {g : Nat → Option α} {r : α} (h : Ev (fun k => g (k + 1)) r) : Ev g r := by
  obtain ⟨K, h⟩ := h
  refine ⟨K + 1, fun n hn => ?_⟩
  obtain ⟨m, rfl⟩ : ∃ m, n = m + 1 := ⟨n - 1, by omega⟩
  exact h m (by omega)
theorem Ev.here {α β : Type} {g : Option α} {f : Nat → α → Option β} {a : α} {r : β} (h : g = some a) (k : Ev (fun n => f n a) r) : Ev (fun n => g.bind (f n)) r := by
  subst h; exact k
theorem Ev.yes {α : Type} {c : Prop} [Decidable c] {A B : Nat → Option α} {r : α} (h : c) (k : Ev A r) : Ev (fun n => if c then A n else B n) r := Ev.congr (fun _ => if_pos h) k
theorem Ev.no {α : Type} {c : Prop} [Decidable c] {A B : Nat → Option α} {r : α} (h : ¬ c) (k : Ev B r) : Ev (fun n => if c then A n else B n) r := Ev.congr (fun _ => if_neg h) k
/-- An upward loop over an index: what it comes to from i on, if what one round does is known. -/
theorem Ev.up {σ ρ : Type} (L : Nat → σ → Int → Option ρ) (n : Nat) (R : Nat → σ → ρ) (I : Nat → σ → Prop)
    (hend : ∀ s, I n s → Ev (fun k => L k s (n : Int)) (R n s))
    (hstep : ∀ i s, i < n → I i s → (∀ s', I (i + 1) s' → Ev (fun k => L k s' ((i + 1 : Nat) : Int)) (R (i + 1) s')) → Ev (fun k => L k s (i : Int)) (R i s)) :
    ∀ i s, i ≤ n → I i s → Ev (fun k => L k s (i : Int)) (R i s) := by
  intro i s hi hI
  obtain ⟨d, hd⟩ : ∃ d, n - i = d := ⟨_, rfl⟩
  induction d generalizing i s with
  | zero =>
    have : i = n := by omega
    subst this
    exact hend s hI
  | succ d ih => exact hstep i s (by omega) hI (fun s' h' => ih (i + 1) s' (by omega) h' (by omega))
/-- The rounds come to something that Q says. -/
def EvP {α : Type} (g : Nat → Option α) (Q : α → Prop) : Prop := ∃ r, Ev g r ∧ Q r
theorem EvP.mono {α : Type} {g : Nat → Option α} {Q Q' : α → Prop} (h : EvP g Q) (k : ∀ r, Q r → Q' r) : EvP g Q' := by
  obtain ⟨r, h, q⟩ := h; exact ⟨r, h, k r q⟩
theorem EvP.round {α : Type} {g : Nat → Option α} {Q : α → Prop} (h : EvP (fun k => g (k + 1)) Q) : EvP g Q := by
  obtain ⟨r, h, q⟩ := h; exact ⟨r, Ev.round h, q⟩
theorem EvP.yes {α : Type} {c : Prop} [Decidable c] {A B : Nat → Option α} {Q : α → Prop} (h : c) (k : EvP A Q) : EvP (fun n => if c then A n else B n) Q := by
  obtain ⟨r, k, q⟩ := k; exact ⟨r, Ev.yes h k, q⟩
theorem EvP.no {α : Type} {c : Prop} [Decidable c] {A B : Nat → Option α} {Q : α → Prop} (h : ¬ c) (k : EvP B Q) : EvP (fun n => if c then A n else B n) Q := by
  obtain ⟨r, k, q⟩ := k; exact ⟨r, Ev.no h k, q⟩
theorem EvP.here {α β : Type} {g : Option α} {f : Nat → α → Option β} {a : α} {Q : β → Prop} (h : g = some a) (k : EvP (fun n => f n a) Q) : EvP (fun n => g.bind (f n)) Q := by
  obtain ⟨r, k, q⟩ := k; exact ⟨r, Ev.here h k, q⟩
theorem EvP.bind {α β : Type} {g : Nat → Option α} {f : Nat → α → Option β} {a : α} {Q : β → Prop} (h : Ev g a) (k : EvP (fun n => f n a) Q) : EvP (fun n => (g n).bind (f n)) Q := by
  obtain ⟨r, k, q⟩ := k; exact ⟨r, Ev.bind h k, q⟩
theorem EvP.up {σ ρ : Type} (L : Nat → σ → Int → Option ρ) (Q : ρ → Prop) (n : Nat) (I : Nat → σ → Prop)
    (hend : ∀ s, I n s → EvP (fun k => L k s (n : Int)) Q)
    (hstep : ∀ i s, i < n → I i s → (∀ s', I (i + 1) s' → EvP (fun k => L k s' ((i + 1 : Nat) : Int)) Q) → EvP (fun k => L k s (i : Int)) Q) :
    ∀ i s, i ≤ n → I i s → EvP (fun k => L k s (i : Int)) Q := by
  intro i s hi hI
  obtain ⟨d, hd⟩ : ∃ d, n - i = d := ⟨_, rfl⟩
  induction d generalizing i s with
  | zero =>
    have : i = n := by omega
    subst this
    exact hend s hI
  | succ d ih => exact hstep i s (by omega) hI (fun s' h' => ih (i + 1) s' (by omega) h' (by omega))
end Go.Proofs.YtcibmpomidhgiaaDoor.U
end M4
section M5
namespace Go.Proofs.YtcibmpomidhgiaaDoor.U
open Go.RowKit Go.Proofs.YtcibmpomidhgiaaDoor.P Go.Proofs.YtcibmpomidhgiaaDoorW.PrintWords Go.Proofs.YtcibmpomidhgiaaDoorW.PrintLast
set_option linter.unusedVariables false
/-! What the law's own helpers come to: copies, equality, sizes. -/
theorem toS (x0 : List Int) (hn : x0.length ≤ 35184372088832) : Ev (fun k => laws_toInt64S.f k x0) x0 := by
  have key := Ev.up (fun k s i => laws_toInt64S.l0 k x0 s i) x0.length (fun _ _ => x0) (fun i s => s.length = x0.length ∧ ∀ j, j < i → s[j]? = x0[j]?)
    (fun s ⟨h1, h2⟩ => by
      refine Ev.round ?_
      simp only [laws_toInt64S.l0]
      refine Ev.no (by omega) ?_
      have : s = x0 := List.ext_getElem? fun j => by
        by_cases hj : j < x0.length
        · exact h2 j hj
        · rw [List.getElem?_eq_none (by omega), List.getElem?_eq_none (by omega)]
      rw [this]
      exact Ev.now _)
    (fun i s hi ⟨h1, h2⟩ ih => by
      refine Ev.round ?_
      simp only [laws_toInt64S.l0]
      refine Ev.yes (by omega) (Ev.yes (by omega) (Ev.yes (by omega) ?_))
      rw [w64s (by omega)]
      refine ih _ ⟨by simp [h1], fun j hj => ?_⟩
      rw [Int.toNat_natCast, rd_lt hi]
      by_cases e : j = i
      · subst e
        rw [List.getElem?_set_self (by omega), List.getElem?_eq_getElem hi]
      · rw [List.getElem?_set_ne (by omega)]
        exact h2 j (by omega))
  unfold laws_toInt64S.f
  refine Ev.yes (by omega) (Ev.yes (by omega) ?_)
  have := key 0 (List.replicate x0.length 0) (by omega) ⟨by simp, fun j hj => absurd hj (by omega)⟩
  simpa using this
theorem eqS (a b : List Int) (hn : a.length ≤ 9223372036854775806) : Ev (fun k => laws_eqInt64S.f k a b) (decide (a = b)) := by
  unfold laws_eqInt64S.f
  by_cases hl : a.length = b.length
  · refine Ev.yes (by omega) ?_
    have key := Ev.up (fun k (_ : Unit) i => laws_eqInt64S.l0 k a b i) a.length (fun _ _ => decide (a = b)) (fun i _ => ∀ j, j < i → a[j]? = b[j]?)
      (fun _ h2 => by
        refine Ev.round ?_
        simp only [laws_eqInt64S.l0]
        refine Ev.no (by omega) ?_
        have : a = b := List.ext_getElem? fun j => by
          by_cases hj : j < a.length
          · exact h2 j hj
          · rw [List.getElem?_eq_none (by omega), List.getElem?_eq_none (by omega)]
        rw [decide_eq_true this]
        exact Ev.now _)
      (fun i _ hi h2 ih => by
        refine Ev.round ?_
        simp only [laws_eqInt64S.l0]
        refine Ev.yes (by omega) (Ev.yes (by omega) (Ev.yes (by omega) ?_))
        rw [rd_lt hi, rd_lt (by omega : i < b.length), w64s (by omega)]
        by_cases e : a[i] = b[i]
        · refine Ev.yes e (ih () fun j hj => ?_)
          by_cases e' : j = i
          · subst e'
            rw [List.getElem?_eq_getElem hi, List.getElem?_eq_getElem (by omega), e]
          · exact h2 j (by omega)
        · refine Ev.no e ?_
          rw [decide_eq_false (fun h => e (by subst h; rfl))]
          exact Ev.now _)
    have := key 0 () (by omega) (fun j hj => absurd hj (by omega))
    simpa using this
  · refine Ev.no (by omega) ?_
    rw [decide_eq_false (fun h => hl (by rw [h]))]
    exact Ev.now _
end Go.Proofs.YtcibmpomidhgiaaDoor.U
end M5
