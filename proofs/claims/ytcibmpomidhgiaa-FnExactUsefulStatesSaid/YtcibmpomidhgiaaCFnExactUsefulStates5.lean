import Derived.ArgAppend
import Derived.Below
import Derived.BigQuiet
import Derived.Deep.AppendLies
import Derived.Deep.CutBlock
import Derived.Deep.DeepCutAuto
import Derived.Deep.Draws
import Derived.Deep.LoopGhost
import Derived.Deep.OwnRows
import Derived.Deep.QuietTactic
import Derived.Deep.RegionHeld3
import Derived.KernelRfl
import Derived.Laws.BitsLemmas
import Derived.Laws.BytesArg
import Derived.Laws.IdiomCopy
import Derived.Laws.MakeOwn
import Derived.Laws.OwnMore
import Derived.Laws.Rows
import Derived.Laws.Slices
import Derived.Laws.StructEq
import Derived.Lib.AppendStr
import Derived.Lib.ConvBytes
import Derived.Lib.SliceRun
import Derived.Maps.AppendAt
import Derived.OrdersHeld
import Derived.OwnWalk
import Derived.RowKit
import Derived.RowKit3
import Derived.Shelf.Abstract
import Derived.Tactics
import Derived.Test.YtcibmpomidhgiaaProg
import Derived.WalkKit
import Derived.WideLaws
import Derived.Test.YtcibmpomidhgiaaCFnExactUsefulStates2
import Derived.Test.YtcibmpomidhgiaaCFnExactUsefulStates4
section M0
namespace Go.Proofs.Ytcibmpomidhgiaa.P
open Go.RowKit Go.Proofs.Ytcibmpomidhgiaa.Sh Go.Proofs.YtcibmpomidhgiaaW.PrintWords Go.Proofs.YtcibmpomidhgiaaW.PrintLast Go.Proofs.YtcibmpomidhgiaaW.PrintMore
attribute [local go_sem] max2_int min2_int max_two min_two max_three min_three max_four min_four   -- for this text's walks alone
set_option linter.unusedVariables false
set_option linter.unusedSimpArgs false

/-! ### laws_szInt64SS: function 32 -/
def laws_szInt64SS.l0 : Nat → List (List Int) → Int → Int → Option (Int)
 | 0, _, _, _ => none
 | k + 1, x0, x1, x5 => if x5 < (x0.length : Int) then (if 0 ≤ x5 then ((laws_szInt64S.f (rd_L1 x0 x5) x1).bind fun t205 => (if t205 < 0 then (some (-1)) else (laws_szInt64SS.l0 k x0 t205 (wrap64 (x5 + 1))))) else (none)) else (some x1)
def laws_szInt64SS.f (k : Nat) (l0 : List (List Int)) (a1 : Int) : Option (Int) := if (wrap64 (a1 - (l0.length : Int))) < 0 then (some (-1)) else (laws_szInt64SS.l0 k l0 (wrap64 (a1 - (l0.length : Int))) 0)
theorem laws_szInt64SS.mono_l : ∀ k, (∀ y0 y1 y2, LeO (laws_szInt64SS.l0 k y0 y1 y2) (laws_szInt64SS.l0 (k + 1) y0 y1 y2))
 | 0 => fun _ _ _ r h => by simp [laws_szInt64SS.l0] at h
 | k + 1 => by
  have ih0 := laws_szInt64SS.mono_l k
  ·intro y0 y1 y2
   unfold laws_szInt64SS.l0
   repeat' first
   | (with_reducible exact ih0 _ _ _)
   | (with_reducible exact LeO.refl _)
   | (with_reducible exact LeO.none _)
   | (with_reducible refine LeO.ite ?_ ?_)
   | (with_reducible refine LeO.bind ?_ (fun _ => ?_))
   | exact ih0 _ _ _
   | exact LeO.none _
   | refine LeO.ite ?_ ?_
   | refine LeO.bind ?_ (fun _ => ?_)
theorem laws_szInt64SS.mono : ∀ a0 a1 k, LeO (laws_szInt64SS.f k a0 a1) (laws_szInt64SS.f (k + 1) a0 a1) := by
 intro a0 a1 k
 have ih0 := laws_szInt64SS.mono_l k
 unfold laws_szInt64SS.f
 repeat' first
   | (with_reducible exact ih0 _ _ _)
   | (with_reducible exact LeO.refl _)
   | (with_reducible exact LeO.none _)
   | (with_reducible refine LeO.ite ?_ ?_)
   | (with_reducible refine LeO.bind ?_ (fun _ => ?_))
   | exact ih0 _ _ _
   | exact LeO.none _
   | refine LeO.ite ?_ ?_
   | refine LeO.bind ?_ (fun _ => ?_)
set_option maxHeartbeats 8000000 in
set_option maxRecDepth 100000 in
theorem laws_szInt64SS.calls (k : Nat) (A0 : Option Addr) (c0 : Nat) (l0 : List (List Int)) (a1 : Int) (r : Int) (w : World) (hr0 : Kd.C (Kd.slice 2 (Kd.int .i64)) w A0 l0.length l0) (hc0 : l0.length ≤ c0) (h : laws_szInt64SS.f k l0 a1 = some r) :
  Calls Try.prog 32 #[.slice A0 l0.length c0, .int .i64 a1] w fun e w' => e = .returned (.int .i64 r) ∧ Drawn0 w w' := by
 have HR0 := Aside0.mk hr0
 have HC0 := Aside0.mk hc0
 clear hr0 hc0
 have H : (if (wrap64 (a1 - (l0.length : Int))) < 0 then (some (-1)) else (laws_szInt64SS.l0 k l0 (wrap64 (a1 - (l0.length : Int))) 0)) = some r := h
 clear h
 by_cases c3 : (wrap64 (a1 - (l0.length : Int))) < 0
 ·rw [if_pos c3] at H
  have c3b0 : decide ((wrap64 (a1 - (l0.length : Int))) < 0) = true := decide_eq_true c3
  clear c3
  obtain rfl := Option.some.inj H
  go_enter Try.func32, Try.ntmps32
  go_wp2
  go_ret
  exact ⟨eW, by repeat (first | exact Drawn0.refl _ | apply Drawn0.step)⟩
 ·rw [if_neg c3] at H
  have c3b0 : decide ((wrap64 (a1 - (l0.length : Int))) < 0) = false := decide_eq_false c3
  clear c3
  have H' := Aside0.mk H
  clear H
  go_enter Try.func32, Try.ntmps32
  go_wp2
  go_loopg [1, 5] k (fun kq v1 v5 w' => ∃ (x1_1 : Int) (x5_1 : Int), v1 = .int .i64 x1_1 ∧ v5 = .int .i64 x5_1 ∧ Aside0 (laws_szInt64SS.l0 kq l0 x1_1 x5_1 = some r) ∧ Aside0 (kq ≤ k) ∧ Drawn0 w w')
  case atStart => exact ⟨(wrap64 (a1 - (l0.length : Int))), (0), (eW), (eW), H', ⟨Nat.le_refl _⟩, by repeat (first | exact Drawn0.refl _ | apply Drawn0.step)⟩
  case round =>
   clear H'
   try clear p2
   try clear c3
   try clear c3b0
   obtain ⟨x1_1, x5_1, rfl, rfl, HA, HK1, ⟨m1, rfl⟩⟩ := hrel
   cases gk with
   | zero => exact absurd HA.out (by simp [laws_szInt64SS.l0])
   | succ k1 =>
    have H := HA.out
    clear HA
    simp only [laws_szInt64SS.l0] at H
    by_cases c4 : x5_1 < (l0.length : Int)
    ·rw [if_pos c4] at H
     have c4b0 : decide (x5_1 < (l0.length : Int)) = true := decide_eq_true c4
     clear c4
     by_cases c5 : 0 ≤ x5_1
     ·rw [if_pos c5] at H
      have c5b0 : decide (0 ≤ x5_1) = true := decide_eq_true c5
      clear c5
      replace H := Option.bind_eq_some_iff.mp H
      obtain ⟨t205, A60, H⟩ := H
      replace H : (if t205 < 0 then (some (-1)) else (laws_szInt64SS.l0 k1 l0 t205 (wrap64 (x5_1 + 1)))) = some r := H
      have A6 := Aside0.mk A60
      clear A60
      by_cases c7 : t205 < 0
      ·rw [if_pos c7] at H
       have c7b0 : decide (t205 < 0) = true := decide_eq_true c7
       clear c7
       obtain rfl := Option.some.inj H
       have p204 : 0 ≤ (x5_1 : Int) := ofD
       have q204 : x5_1 < (l0.length : Int) := ofD
       obtain ⟨ad204, A204_0, c204_0, e204, hx204_0, hl204_0, hi204_0⟩ := at_L1 HR0.out x5_1 p204 q204
       cases e204
       have HR204_0 := Aside0.mk hi204_0
       have HC204_0 := Aside0.mk hl204_0
       clear hi204_0 hl204_0
       replace p204 := eq_true p204
       replace q204 := eq_true q204
       go_wp2_with (first | ((with_reducible refine gate_callee (f := 61) rfl ?_); refine goesS (some 23) Try.func61 #[.slice A204_0 (rd_L1 l0 x5_1).length c204_0, .int .i64 x1_1] ?_; (with_reducible refine (laws_szInt64S.calls _ _ (rd_L1 l0 x5_1) x1_1 t205 _ ?side1 ?side2 A6.out).mono ?_); (case side1 => exact cP HR204_0.out); (case side2 => exact HC204_0.out); rintro e w' ⟨rfl, ⟨nd, rfl⟩⟩; refine ⟨_, rfl, ?_⟩))
       go_ret
       exact ⟨eW, by repeat (first | exact Drawn0.refl _ | apply Drawn0.step)⟩
      ·rw [if_neg c7] at H
       have c7b0 : decide (t205 < 0) = false := decide_eq_false c7
       clear c7
       have H' := Aside0.mk H
       clear H
       have p204 : 0 ≤ (x5_1 : Int) := ofD
       have q204 : x5_1 < (l0.length : Int) := ofD
       obtain ⟨ad204, A204_0, c204_0, e204, hx204_0, hl204_0, hi204_0⟩ := at_L1 HR0.out x5_1 p204 q204
       cases e204
       have HR204_0 := Aside0.mk hi204_0
       have HC204_0 := Aside0.mk hl204_0
       clear hi204_0 hl204_0
       replace p204 := eq_true p204
       replace q204 := eq_true q204
       go_wp2_with (first | ((with_reducible refine gate_callee (f := 61) rfl ?_); refine goesS (some 23) Try.func61 #[.slice A204_0 (rd_L1 l0 x5_1).length c204_0, .int .i64 x1_1] ?_; (with_reducible refine (laws_szInt64S.calls _ _ (rd_L1 l0 x5_1) x1_1 t205 _ ?side1 ?side2 A6.out).mono ?_); (case side1 => exact cP HR204_0.out); (case side2 => exact HC204_0.out); rintro e w' ⟨rfl, ⟨nd, rfl⟩⟩; refine ⟨_, rfl, ?_⟩))
       go_roundg k1
       case measure => have := HK1.out; omega
       case rel => exact ⟨(t205), (wrap64 (x5_1 + 1)), (eW), (eW), H', ⟨by have := HK1.out; omega⟩, by repeat (first | exact Drawn0.refl _ | apply Drawn0.step)⟩
     ·rw [if_neg c5] at H
      exact absurd H (by simp)
    ·rw [if_neg c4] at H
     have c4b0 : decide (x5_1 < (l0.length : Int)) = false := decide_eq_false c4
     clear c4
     obtain rfl := Option.some.inj H
     go_wp2
     go_ret
     exact ⟨eW, by repeat (first | exact Drawn0.refl _ | apply Drawn0.step)⟩

/-! ### laws_szAutomaton: function 16 -/
def laws_szAutomaton.f (k : Nat) (a0_0 : Int) (a0_1 : Int) (a0_2 : Int) (l0_3 : List (List Int)) (a1 : Int) : Option (Int) := (laws_szInt64SS.f k l0_3 a1).bind fun t207 => (if t207 < 0 then (some (-1)) else (some t207))
theorem laws_szAutomaton.mono : ∀ a0 a1 a2 a3 a4 k, LeO (laws_szAutomaton.f k a0 a1 a2 a3 a4) (laws_szAutomaton.f (k + 1) a0 a1 a2 a3 a4) := by
 intro a0 a1 a2 a3 a4 k
 unfold laws_szAutomaton.f
 repeat' first
   | (with_reducible exact laws_szInt64SS.mono _ _ _)
   | (with_reducible exact LeO.refl _)
   | (with_reducible exact LeO.none _)
   | (with_reducible refine LeO.ite ?_ ?_)
   | (with_reducible refine LeO.bind ?_ (fun _ => ?_))
   | exact laws_szInt64SS.mono _ _ _
   | exact LeO.none _
   | refine LeO.ite ?_ ?_
   | refine LeO.bind ?_ (fun _ => ?_)
set_option maxHeartbeats 8000000 in
set_option maxRecDepth 100000 in
theorem laws_szAutomaton.calls (k : Nat) (a0_0 : Int) (a0_1 : Int) (a0_2 : Int) (A0_3 : Option Addr) (c0_3 : Nat) (l0_3 : List (List Int)) (a1 : Int) (r : Int) (w : World) (hr0_3 : Kd.C (Kd.slice 2 (Kd.int .i64)) w A0_3 l0_3.length l0_3) (hc0_3 : l0_3.length ≤ c0_3) (h : laws_szAutomaton.f k a0_0 a0_1 a0_2 l0_3 a1 = some r) :
  Calls Try.prog 16 #[.agg #[.int .i64 a0_0, .int .i64 a0_1, .int .i64 a0_2, .slice A0_3 l0_3.length c0_3], .int .i64 a1] w fun e w' => e = .returned (.int .i64 r) ∧ Below w.heap.size w w' := by
 have hu35 := Try.underlying35
 have HR0_3 := Aside0.mk hr0_3
 have HC0_3 := Aside0.mk hc0_3
 clear hr0_3 hc0_3
 have HB := Aside0.mk (Below.refl w.heap.size w)
 have H : ((laws_szInt64SS.f k l0_3 a1).bind fun t207 => (if t207 < 0 then (some (-1)) else (some t207))) = some r := h
 clear h
 replace H := Option.bind_eq_some_iff.mp H
 obtain ⟨t207, A30, H⟩ := H
 replace H : (if t207 < 0 then (some (-1)) else (some t207)) = some r := H
 have A3 := Aside0.mk A30
 clear A30
 by_cases c4 : t207 < 0
 ·rw [if_pos c4] at H
  have c4b0 : decide (t207 < 0) = true := decide_eq_true c4
  clear c4
  obtain rfl := Option.some.inj H
  go_enter Try.func16, Try.ntmps16
  go_wp2_with (first | ((with_reducible refine gate_dst (N := 2) rfl ?_); refine boxS (N := 2) (cs := #[.int .i64 a0_0, .int .i64 a0_1, .int .i64 a0_2, .slice A0_3 l0_3.length c0_3]) (t := 35) ?_; intro gb206 hg w5 hbox hb; have n0_ := Aside0.mk (below_step (bW) hb); have n1_ := Aside0.mk (hbox); have n2_ := geW (w := w) hg; have n3_ := geW (w := w) hg; clear HB; have HB := n0_; have BK206 := n1_; have GW206 := n2_; have GE206 := n3_; clear n0_ n1_ n2_ n3_; clear hb hbox hg; obtain ⟨hcz6_0, hcz6_1, hcz6_2, hcz6_3⟩ := cells4 BK206.out; obtain ⟨hfz6_0, hfz6_1, hfz6_2, hfz6_3⟩ := frz4 BK206.out) | ((with_reducible refine gate_callee (f := 32) rfl ?_); refine goesS (some 8) Try.func32 #[.slice A0_3 l0_3.length c0_3, .int .i64 a1] ?_; (with_reducible refine (laws_szInt64SS.calls k _ _ l0_3 a1 t207 _ ?side1 ?side2 A3.out).mono ?_); (case side1 => exact cP (Kd.C_below HR0_3.out HB.out)); (case side2 => exact HC0_3.out); rintro e w' ⟨rfl, ⟨nd, rfl⟩⟩; refine ⟨_, rfl, ?_⟩))
  go_ret
  exact ⟨eW, bW⟩
 ·rw [if_neg c4] at H
  have c4b0 : decide (t207 < 0) = false := decide_eq_false c4
  clear c4
  obtain rfl := Option.some.inj H
  go_enter Try.func16, Try.ntmps16
  go_wp2_with (first | ((with_reducible refine gate_dst (N := 2) rfl ?_); refine boxS (N := 2) (cs := #[.int .i64 a0_0, .int .i64 a0_1, .int .i64 a0_2, .slice A0_3 l0_3.length c0_3]) (t := 35) ?_; intro gb206 hg w7 hbox hb; have n0_ := Aside0.mk (below_step (bW) hb); have n1_ := Aside0.mk (hbox); have n2_ := geW (w := w) hg; have n3_ := geW (w := w) hg; clear HB; have HB := n0_; have BK206 := n1_; have GW206 := n2_; have GE206 := n3_; clear n0_ n1_ n2_ n3_; clear hb hbox hg; obtain ⟨hcz8_0, hcz8_1, hcz8_2, hcz8_3⟩ := cells4 BK206.out; obtain ⟨hfz8_0, hfz8_1, hfz8_2, hfz8_3⟩ := frz4 BK206.out) | ((with_reducible refine gate_callee (f := 32) rfl ?_); refine goesS (some 8) Try.func32 #[.slice A0_3 l0_3.length c0_3, .int .i64 a1] ?_; (with_reducible refine (laws_szInt64SS.calls k _ _ l0_3 a1 t207 _ ?side1 ?side2 A3.out).mono ?_); (case side1 => exact cP (Kd.C_below HR0_3.out HB.out)); (case side2 => exact HC0_3.out); rintro e w' ⟨rfl, ⟨nd, rfl⟩⟩; refine ⟨_, rfl, ?_⟩))
  go_ret
  exact ⟨eW, bW⟩

/-! ### spec_l11States: function 51 -/
def spec_l11States.f (a0_0 : Int) (a0_1 : Int) (a0_2 : Int) (l0_3 : List (List Int)) : Option (Int) := some (l0_3.length : Int)
set_option maxHeartbeats 8000000 in
set_option maxRecDepth 100000 in
theorem spec_l11States.calls (a0_0 : Int) (a0_1 : Int) (a0_2 : Int) (A0_3 : Option Addr) (c0_3 : Nat) (l0_3 : List (List Int)) (r : Int) (w : World) (hr0_3 : Kd.C (Kd.slice 2 (Kd.int .i64)) w A0_3 l0_3.length l0_3) (hc0_3 : l0_3.length ≤ c0_3) (h : spec_l11States.f a0_0 a0_1 a0_2 l0_3 = some r) :
  Calls Try.prog 51 #[.agg #[.int .i64 a0_0, .int .i64 a0_1, .int .i64 a0_2, .slice A0_3 l0_3.length c0_3]] w fun e w' => e = .returned (.int .i64 r) ∧ Below w.heap.size w w' := by
 have hu38 := Try.underlying38
 have HR0_3 := Aside0.mk hr0_3
 have HC0_3 := Aside0.mk hc0_3
 clear hr0_3 hc0_3
 have HB := Aside0.mk (Below.refl w.heap.size w)
 have H : (some (l0_3.length : Int)) = some r := h
 clear h
 obtain rfl := Option.some.inj H
 go_enter Try.func51, Try.ntmps51
 go_wp2_with (first | ((with_reducible refine gate_dst (N := 1) rfl ?_); refine boxS (N := 1) (cs := #[.int .i64 a0_0, .int .i64 a0_1, .int .i64 a0_2, .slice A0_3 l0_3.length c0_3]) (t := 38) ?_; intro gb208 hg w2 hbox hb; have n0_ := Aside0.mk (below_step (bW) hb); have n1_ := Aside0.mk (hbox); have n2_ := geW (w := w) hg; have n3_ := geW (w := w) hg; clear HB; have HB := n0_; have BK208 := n1_; have GW208 := n2_; have GE208 := n3_; clear n0_ n1_ n2_ n3_; clear hb hbox hg; obtain ⟨hcz3_0, hcz3_1, hcz3_2, hcz3_3⟩ := cells4 BK208.out; obtain ⟨hfz3_0, hfz3_1, hfz3_2, hfz3_3⟩ := frz4 BK208.out))
 go_ret
 exact ⟨eW, bW⟩

/-! ### spec_l11Is: function 33 -/
mutual
def spec_l11Is.j0 : Nat → Int → Bool → Int → Int → Int → List (List Int) → Option (Bool)
 | 0, _, _, _, _, _, _ => none
 | k + 1, x3, x32, x210000, x210001, x210002, x210003 => if x32 = true then (some false) else (spec_l11Is.l0 k x3 0 x210000 x210001 x210002 x210003)
def spec_l11Is.l0 : Nat → Int → Int → Int → Int → Int → List (List Int) → Option (Bool)
 | 0, _, _, _, _, _, _ => none
 | k + 1, x3, x4, x210000, x210001, x210002, x210003 => if x4 < x3 then (if 0 ≤ x4 then (if x4 < (x210003.length : Int) then (if ((rd_L1 x210003 x4).length : Int) = x210000 then (spec_l11Is.l1 k x3 x4 0 x210000 x210001 x210002 x210003) else (some false)) else (none)) else (none)) else (some true)
def spec_l11Is.l1 : Nat → Int → Int → Int → Int → Int → Int → List (List Int) → Option (Bool)
 | 0, _, _, _, _, _, _, _ => none
 | k + 1, x3, x4, x5, x210000, x210001, x210002, x210003 => if x5 < x210000 then (if 0 ≤ x4 then (if x4 < (x210003.length : Int) then (if 0 ≤ x5 then (if x5 < ((rd_L1 x210003 x4).length : Int) then ((spec_l01In.f (rd (rd_L1 x210003 x4) x5) (-1) (wrap64 (x3 - 1))).bind fun t219 => (if t219 = true then (spec_l11Is.l1 k x3 x4 (wrap64 (x5 + 1)) x210000 x210001 x210002 x210003) else (some false))) else (none)) else (none)) else (none)) else (none)) else (spec_l11Is.l0 k x3 (wrap64 (x4 + 1)) x210000 x210001 x210002 x210003)
end
def spec_l11Is.f (k : Nat) (a0_0 : Int) (a0_1 : Int) (a0_2 : Int) (l0_3 : List (List Int)) : Option (Bool) := (spec_l11States.f a0_0 a0_1 a0_2 l0_3).bind fun t210 => ((spec_l01In.f a0_0 0 8).bind fun t211 => (if t211 = true then ((spec_l01In.f t210 1 16).bind fun t212 => (if t212 = true then ((spec_l01In.f a0_1 0 (wrap64 (t210 - 1))).bind fun t213 => (if t213 = true then ((spec_l01Full.f t210).bind fun t214 => ((spec_l01In.f a0_2 0 t214).bind fun t215 => (spec_l11Is.j0 k t210 (!t215) a0_0 a0_1 a0_2 l0_3))) else (spec_l11Is.j0 k t210 true a0_0 a0_1 a0_2 l0_3))) else (spec_l11Is.j0 k t210 true a0_0 a0_1 a0_2 l0_3))) else (spec_l11Is.j0 k t210 true a0_0 a0_1 a0_2 l0_3)))
theorem spec_l11Is.mono_l : ∀ k, (∀ y0 y1 y2 y3 y4 y5, LeO (spec_l11Is.j0 k y0 y1 y2 y3 y4 y5) (spec_l11Is.j0 (k + 1) y0 y1 y2 y3 y4 y5)) ∧ (∀ y0 y1 y2 y3 y4 y5, LeO (spec_l11Is.l0 k y0 y1 y2 y3 y4 y5) (spec_l11Is.l0 (k + 1) y0 y1 y2 y3 y4 y5)) ∧ (∀ y0 y1 y2 y3 y4 y5 y6, LeO (spec_l11Is.l1 k y0 y1 y2 y3 y4 y5 y6) (spec_l11Is.l1 (k + 1) y0 y1 y2 y3 y4 y5 y6))
 | 0 => ⟨fun _ _ _ _ _ _ r h => by simp [spec_l11Is.j0] at h, fun _ _ _ _ _ _ r h => by simp [spec_l11Is.l0] at h, fun _ _ _ _ _ _ _ r h => by simp [spec_l11Is.l1] at h⟩
 | k + 1 => by
  obtain ⟨ih0, ih1, ih2⟩ := spec_l11Is.mono_l k
  refine ⟨?_, ?_, ?_⟩
  ·intro y0 y1 y2 y3 y4 y5
   unfold spec_l11Is.j0
   repeat' first
   | (with_reducible exact ih0 _ _ _ _ _ _)
   | (with_reducible exact ih1 _ _ _ _ _ _)
   | (with_reducible exact ih2 _ _ _ _ _ _ _)
   | (with_reducible exact LeO.refl _)
   | (with_reducible exact LeO.none _)
   | (with_reducible refine LeO.ite ?_ ?_)
   | (with_reducible refine LeO.bind ?_ (fun _ => ?_))
   | exact ih0 _ _ _ _ _ _
   | exact ih1 _ _ _ _ _ _
   | exact ih2 _ _ _ _ _ _ _
   | exact LeO.none _
   | refine LeO.ite ?_ ?_
   | refine LeO.bind ?_ (fun _ => ?_)
  ·intro y0 y1 y2 y3 y4 y5
   unfold spec_l11Is.l0
   repeat' first
   | (with_reducible exact ih0 _ _ _ _ _ _)
   | (with_reducible exact ih1 _ _ _ _ _ _)
   | (with_reducible exact ih2 _ _ _ _ _ _ _)
   | (with_reducible exact LeO.refl _)
   | (with_reducible exact LeO.none _)
   | (with_reducible refine LeO.ite ?_ ?_)
   | (with_reducible refine LeO.bind ?_ (fun _ => ?_))
   | exact ih0 _ _ _ _ _ _
   | exact ih1 _ _ _ _ _ _
   | exact ih2 _ _ _ _ _ _ _
   | exact LeO.none _
   | refine LeO.ite ?_ ?_
   | refine LeO.bind ?_ (fun _ => ?_)
  ·intro y0 y1 y2 y3 y4 y5 y6
   unfold spec_l11Is.l1
   repeat' first
   | (with_reducible exact ih0 _ _ _ _ _ _)
   | (with_reducible exact ih1 _ _ _ _ _ _)
   | (with_reducible exact ih2 _ _ _ _ _ _ _)
   | (with_reducible exact LeO.refl _)
   | (with_reducible exact LeO.none _)
   | (with_reducible refine LeO.ite ?_ ?_)
   | (with_reducible refine LeO.bind ?_ (fun _ => ?_))
   | exact ih0 _ _ _ _ _ _
   | exact ih1 _ _ _ _ _ _
   | exact ih2 _ _ _ _ _ _ _
   | exact LeO.none _
   | refine LeO.ite ?_ ?_
   | refine LeO.bind ?_ (fun _ => ?_)
theorem spec_l11Is.mono : ∀ a0 a1 a2 a3 k, LeO (spec_l11Is.f k a0 a1 a2 a3) (spec_l11Is.f (k + 1) a0 a1 a2 a3) := by
 intro a0 a1 a2 a3 k
 obtain ⟨ih0, ih1, ih2⟩ := spec_l11Is.mono_l k
 unfold spec_l11Is.f
 repeat' first
   | (with_reducible exact ih0 _ _ _ _ _ _)
   | (with_reducible exact ih1 _ _ _ _ _ _)
   | (with_reducible exact ih2 _ _ _ _ _ _ _)
   | (with_reducible exact LeO.refl _)
   | (with_reducible exact LeO.none _)
   | (with_reducible refine LeO.ite ?_ ?_)
   | (with_reducible refine LeO.bind ?_ (fun _ => ?_))
   | exact ih0 _ _ _ _ _ _
   | exact ih1 _ _ _ _ _ _
   | exact ih2 _ _ _ _ _ _ _
   | exact LeO.none _
   | refine LeO.ite ?_ ?_
   | refine LeO.bind ?_ (fun _ => ?_)
set_option maxHeartbeats 8000000 in
set_option maxRecDepth 100000 in
theorem spec_l11Is.calls (k : Nat) (a0_0 : Int) (a0_1 : Int) (a0_2 : Int) (A0_3 : Option Addr) (c0_3 : Nat) (l0_3 : List (List Int)) (r : Bool) (w : World) (hr0_3 : Kd.C (Kd.slice 2 (Kd.int .i64)) w A0_3 l0_3.length l0_3) (hc0_3 : l0_3.length ≤ c0_3) (h : spec_l11Is.f k a0_0 a0_1 a0_2 l0_3 = some r) :
  Calls Try.prog 33 #[.agg #[.int .i64 a0_0, .int .i64 a0_1, .int .i64 a0_2, .slice A0_3 l0_3.length c0_3]] w fun e w' => e = .returned (.bool r) ∧ Below w.heap.size w w' := by
 have hu38 := Try.underlying38
 have HR0_3 := Aside0.mk hr0_3
 have HC0_3 := Aside0.mk hc0_3
 clear hr0_3 hc0_3
 have HB := Aside0.mk (Below.refl w.heap.size w)
 have H : ((spec_l11States.f a0_0 a0_1 a0_2 l0_3).bind fun t210 => ((spec_l01In.f a0_0 0 8).bind fun t211 => (if t211 = true then ((spec_l01In.f t210 1 16).bind fun t212 => (if t212 = true then ((spec_l01In.f a0_1 0 (wrap64 (t210 - 1))).bind fun t213 => (if t213 = true then ((spec_l01Full.f t210).bind fun t214 => ((spec_l01In.f a0_2 0 t214).bind fun t215 => (spec_l11Is.j0 k t210 (!t215) a0_0 a0_1 a0_2 l0_3))) else (spec_l11Is.j0 k t210 true a0_0 a0_1 a0_2 l0_3))) else (spec_l11Is.j0 k t210 true a0_0 a0_1 a0_2 l0_3))) else (spec_l11Is.j0 k t210 true a0_0 a0_1 a0_2 l0_3)))) = some r := h
 clear h
 replace H := Option.bind_eq_some_iff.mp H
 obtain ⟨t210, A20, H⟩ := H
 replace H : ((spec_l01In.f a0_0 0 8).bind fun t211 => (if t211 = true then ((spec_l01In.f t210 1 16).bind fun t212 => (if t212 = true then ((spec_l01In.f a0_1 0 (wrap64 (t210 - 1))).bind fun t213 => (if t213 = true then ((spec_l01Full.f t210).bind fun t214 => ((spec_l01In.f a0_2 0 t214).bind fun t215 => (spec_l11Is.j0 k t210 (!t215) a0_0 a0_1 a0_2 l0_3))) else (spec_l11Is.j0 k t210 true a0_0 a0_1 a0_2 l0_3))) else (spec_l11Is.j0 k t210 true a0_0 a0_1 a0_2 l0_3))) else (spec_l11Is.j0 k t210 true a0_0 a0_1 a0_2 l0_3))) = some r := H
 have A2 := Aside0.mk A20
 clear A20
 have HC3 := Aside0.mk H
 clear H
 go_enter Try.func33, Try.ntmps33
 go_upto_region 2 with (first | ((with_reducible refine gate_dst (N := 1) rfl ?_); refine boxS (N := 1) (cs := #[.int .i64 a0_0, .int .i64 a0_1, .int .i64 a0_2, .slice A0_3 l0_3.length c0_3]) (t := 38) ?_; intro gb209 hg w4 hbox hb; have n0_ := Aside0.mk (below_step (bW) hb); have n1_ := Aside0.mk (hbox); have n2_ := geW (w := w) hg; have n3_ := geW (w := w) hg; clear HB; have HB := n0_; have BK209 := n1_; have GW209 := n2_; have GE209 := n3_; clear n0_ n1_ n2_ n3_; clear hb hbox hg; obtain ⟨hcz5_0, hcz5_1, hcz5_2, hcz5_3⟩ := cells4 BK209.out; obtain ⟨hfz5_0, hfz5_1, hfz5_2, hfz5_3⟩ := frz4 BK209.out) | (go_at_call 51; (with_reducible refine (spec_l11States.calls a0_0 a0_1 a0_2 _ _ l0_3 t210 _ ?side1 ?side2 A2.out).mono ?_); (case side1 => exact cP (Kd.C_below HR0_3.out HB.out)); (case side2 => exact HC0_3.out); rintro e w6 ⟨rfl, hb⟩; have n0_ := Aside0.mk (blkB BK209.out hb); have n1_ := Aside0.mk (below_step (bW) hb); clear BK209; clear HB; have BK209 := n0_; have HB := n1_; clear n0_ n1_; (try clear hb); (try clear hb2); (try clear hk); (try clear hi)))
 repeat (go_quiet (first | ((with_reducible refine gate_dst (N := 1) rfl ?_); refine boxS (N := 1) (cs := #[.int .i64 a0_0, .int .i64 a0_1, .int .i64 a0_2, .slice A0_3 l0_3.length c0_3]) (t := 38) ?_; intro gb209 hg w4 hbox hb; have n0_ := Aside0.mk (below_step (bW) hb); have n1_ := Aside0.mk (hbox); have n2_ := geW (w := w) hg; have n3_ := geW (w := w) hg; clear HB; have HB := n0_; have BK209 := n1_; have GW209 := n2_; have GE209 := n3_; clear n0_ n1_ n2_ n3_; clear hb hbox hg; obtain ⟨hcz5_0, hcz5_1, hcz5_2, hcz5_3⟩ := cells4 BK209.out; obtain ⟨hfz5_0, hfz5_1, hfz5_2, hfz5_3⟩ := frz4 BK209.out) | (go_at_call 51; (with_reducible refine (spec_l11States.calls a0_0 a0_1 a0_2 _ _ l0_3 t210 _ ?side1 ?side2 A2.out).mono ?_); (case side1 => exact cP (Kd.C_below HR0_3.out HB.out)); (case side2 => exact HC0_3.out); rintro e w6 ⟨rfl, hb⟩; have n0_ := Aside0.mk (blkB BK209.out hb); have n1_ := Aside0.mk (below_step (bW) hb); clear BK209; clear HB; have BK209 := n0_; have HB := n1_; clear n0_ n1_; (try clear hb); (try clear hb2); (try clear hk); (try clear hi))); go_upto_region 2 with (first | ((with_reducible refine gate_dst (N := 1) rfl ?_); refine boxS (N := 1) (cs := #[.int .i64 a0_0, .int .i64 a0_1, .int .i64 a0_2, .slice A0_3 l0_3.length c0_3]) (t := 38) ?_; intro gb209 hg w4 hbox hb; have n0_ := Aside0.mk (below_step (bW) hb); have n1_ := Aside0.mk (hbox); have n2_ := geW (w := w) hg; have n3_ := geW (w := w) hg; clear HB; have HB := n0_; have BK209 := n1_; have GW209 := n2_; have GE209 := n3_; clear n0_ n1_ n2_ n3_; clear hb hbox hg; obtain ⟨hcz5_0, hcz5_1, hcz5_2, hcz5_3⟩ := cells4 BK209.out; obtain ⟨hfz5_0, hfz5_1, hfz5_2, hfz5_3⟩ := frz4 BK209.out) | (go_at_call 51; (with_reducible refine (spec_l11States.calls a0_0 a0_1 a0_2 _ _ l0_3 t210 _ ?side1 ?side2 A2.out).mono ?_); (case side1 => exact cP (Kd.C_below HR0_3.out HB.out)); (case side2 => exact HC0_3.out); rintro e w6 ⟨rfl, hb⟩; have n0_ := Aside0.mk (blkB BK209.out hb); have n1_ := Aside0.mk (below_step (bW) hb); clear BK209; clear HB; have BK209 := n0_; have HB := n1_; clear n0_ n1_; (try clear hb); (try clear hb2); (try clear hk); (try clear hi))))
 (try simp only [Act.put, List.setIfInBounds_toArray, List.set_cons_zero, List.set_cons_succ])
 go_cut [32] (fun v32 wc => ∃ (kq : Nat) (x32_2 : Bool), v32 = .bool x32_2 ∧ Aside0 (spec_l11Is.j0 kq t210 x32_2 a0_0 a0_1 a0_2 l0_3 = some r) ∧ Aside0 (kq ≤ k) ∧ Aside0 (wc.heap[gb209]? = some (.cells #[.int .i64 a0_0, .int .i64 a0_1, .int .i64 a0_2, (.slice A0_3 l0_3.length c0_3)] 38 (0, 0))) ∧ Aside0 (Below w.heap.size w wc))
 case first =>
  have H := HC3.out
  clear HC3
  replace H := Option.bind_eq_some_iff.mp H
  obtain ⟨t211, A70, H⟩ := H
  replace H : (if t211 = true then ((spec_l01In.f t210 1 16).bind fun t212 => (if t212 = true then ((spec_l01In.f a0_1 0 (wrap64 (t210 - 1))).bind fun t213 => (if t213 = true then ((spec_l01Full.f t210).bind fun t214 => ((spec_l01In.f a0_2 0 t214).bind fun t215 => (spec_l11Is.j0 k t210 (!t215) a0_0 a0_1 a0_2 l0_3))) else (spec_l11Is.j0 k t210 true a0_0 a0_1 a0_2 l0_3))) else (spec_l11Is.j0 k t210 true a0_0 a0_1 a0_2 l0_3))) else (spec_l11Is.j0 k t210 true a0_0 a0_1 a0_2 l0_3)) = some r := H
  have A7 := Aside0.mk A70
  clear A70
  by_cases c8 : t211 = true
  ·subst c8
   have H1 : ((spec_l01In.f t210 1 16).bind fun t212 => (if t212 = true then ((spec_l01In.f a0_1 0 (wrap64 (t210 - 1))).bind fun t213 => (if t213 = true then ((spec_l01Full.f t210).bind fun t214 => ((spec_l01In.f a0_2 0 t214).bind fun t215 => (spec_l11Is.j0 k t210 (!t215) a0_0 a0_1 a0_2 l0_3))) else (spec_l11Is.j0 k t210 true a0_0 a0_1 a0_2 l0_3))) else (spec_l11Is.j0 k t210 true a0_0 a0_1 a0_2 l0_3))) = some r := by rw [if_pos rfl] at H; exact H
   clear H
   have H := H1
   clear H1
   replace H := Option.bind_eq_some_iff.mp H
   obtain ⟨t212, A90, H⟩ := H
   replace H : (if t212 = true then ((spec_l01In.f a0_1 0 (wrap64 (t210 - 1))).bind fun t213 => (if t213 = true then ((spec_l01Full.f t210).bind fun t214 => ((spec_l01In.f a0_2 0 t214).bind fun t215 => (spec_l11Is.j0 k t210 (!t215) a0_0 a0_1 a0_2 l0_3))) else (spec_l11Is.j0 k t210 true a0_0 a0_1 a0_2 l0_3))) else (spec_l11Is.j0 k t210 true a0_0 a0_1 a0_2 l0_3)) = some r := H
   have A9 := Aside0.mk A90
   clear A90
   by_cases c10 : t212 = true
   ·subst c10
    have H1 : ((spec_l01In.f a0_1 0 (wrap64 (t210 - 1))).bind fun t213 => (if t213 = true then ((spec_l01Full.f t210).bind fun t214 => ((spec_l01In.f a0_2 0 t214).bind fun t215 => (spec_l11Is.j0 k t210 (!t215) a0_0 a0_1 a0_2 l0_3))) else (spec_l11Is.j0 k t210 true a0_0 a0_1 a0_2 l0_3))) = some r := by rw [if_pos rfl] at H; exact H
    clear H
    have H := H1
    clear H1
    replace H := Option.bind_eq_some_iff.mp H
    obtain ⟨t213, A110, H⟩ := H
    replace H : (if t213 = true then ((spec_l01Full.f t210).bind fun t214 => ((spec_l01In.f a0_2 0 t214).bind fun t215 => (spec_l11Is.j0 k t210 (!t215) a0_0 a0_1 a0_2 l0_3))) else (spec_l11Is.j0 k t210 true a0_0 a0_1 a0_2 l0_3)) = some r := H
    have A11 := Aside0.mk A110
    clear A110
    by_cases c12 : t213 = true
    ·subst c12
     have H1 : ((spec_l01Full.f t210).bind fun t214 => ((spec_l01In.f a0_2 0 t214).bind fun t215 => (spec_l11Is.j0 k t210 (!t215) a0_0 a0_1 a0_2 l0_3))) = some r := by rw [if_pos rfl] at H; exact H
     clear H
     have H := H1
     clear H1
     replace H := Option.bind_eq_some_iff.mp H
     obtain ⟨t214, A130, H⟩ := H
     replace H : ((spec_l01In.f a0_2 0 t214).bind fun t215 => (spec_l11Is.j0 k t210 (!t215) a0_0 a0_1 a0_2 l0_3)) = some r := H
     have A13 := Aside0.mk A130
     clear A130
     replace H := Option.bind_eq_some_iff.mp H
     obtain ⟨t215, A140, H⟩ := H
     replace H : (spec_l11Is.j0 k t210 (!t215) a0_0 a0_1 a0_2 l0_3) = some r := H
     have A14 := Aside0.mk A140
     clear A140
     have H' := Aside0.mk H
     clear H
     have hcz15_0 : w6.cell? ⟨gb209, 0, none⟩ = some (.int .i64 a0_0) := (blk_cell BK209.out 0).trans rfl
     have hcz15_1 : w6.cell? ⟨gb209, 1, none⟩ = some (.int .i64 a0_1) := (blk_cell BK209.out 1).trans rfl
     have hcz15_2 : w6.cell? ⟨gb209, 2, none⟩ = some (.int .i64 a0_2) := (blk_cell BK209.out 2).trans rfl
     have hcz15_3 : w6.cell? ⟨gb209, 3, none⟩ = some (.slice A0_3 l0_3.length c0_3) := (blk_cell BK209.out 3).trans rfl
     have hfz15_0 := blk_frozen BK209.out 0
     have hfz15_1 := blk_frozen BK209.out 1
     have hfz15_2 := blk_frozen BK209.out 2
     have hfz15_3 := blk_frozen BK209.out 3
     go_wp2_with (first | (go_at_call 58; (with_reducible refine (spec_l01In.calls a0_0 0 8 true _ A7.out).mono ?_); rintro e w' ⟨rfl, ⟨nd, rfl⟩⟩; (try first | exact ⟨rfl, _, World.drewN_drewN _ _ _⟩ | exact ⟨rfl, _, Eq.trans (World.drewN_drewN _ _ _) (congrArg (World.drewN _) (Nat.add_assoc _ _ _))⟩)) | (go_at_call 58; (with_reducible refine (spec_l01In.calls t210 1 16 true _ A9.out).mono ?_); rintro e w' ⟨rfl, ⟨nd, rfl⟩⟩; (try first | exact ⟨rfl, _, World.drewN_drewN _ _ _⟩ | exact ⟨rfl, _, Eq.trans (World.drewN_drewN _ _ _) (congrArg (World.drewN _) (Nat.add_assoc _ _ _))⟩)) | (go_at_call 58; (with_reducible refine (spec_l01In.calls a0_1 0 (wrap64 (t210 - 1)) true _ A11.out).mono ?_); rintro e w' ⟨rfl, ⟨nd, rfl⟩⟩; (try first | exact ⟨rfl, _, World.drewN_drewN _ _ _⟩ | exact ⟨rfl, _, Eq.trans (World.drewN_drewN _ _ _) (congrArg (World.drewN _) (Nat.add_assoc _ _ _))⟩)) | (go_at_call 59; (with_reducible refine (spec_l01Full.calls t210 t214 _ A13.out).mono ?_); rintro e w' ⟨rfl, ⟨nd, rfl⟩⟩; (try first | exact ⟨rfl, _, World.drewN_drewN _ _ _⟩ | exact ⟨rfl, _, Eq.trans (World.drewN_drewN _ _ _) (congrArg (World.drewN _) (Nat.add_assoc _ _ _))⟩)) | (go_at_call 58; (with_reducible refine (spec_l01In.calls a0_2 0 t214 t215 _ A14.out).mono ?_); rintro e w' ⟨rfl, ⟨nd, rfl⟩⟩; (try first | exact ⟨rfl, _, World.drewN_drewN _ _ _⟩ | exact ⟨rfl, _, Eq.trans (World.drewN_drewN _ _ _) (congrArg (World.drewN _) (Nat.add_assoc _ _ _))⟩)))
     repeat (go_quiet (first | (go_at_call 58; (with_reducible refine (spec_l01In.calls a0_0 0 8 true _ A7.out).mono ?_); rintro e w' ⟨rfl, ⟨nd, rfl⟩⟩; (try first | exact ⟨rfl, _, World.drewN_drewN _ _ _⟩ | exact ⟨rfl, _, Eq.trans (World.drewN_drewN _ _ _) (congrArg (World.drewN _) (Nat.add_assoc _ _ _))⟩)) | (go_at_call 58; (with_reducible refine (spec_l01In.calls t210 1 16 true _ A9.out).mono ?_); rintro e w' ⟨rfl, ⟨nd, rfl⟩⟩; (try first | exact ⟨rfl, _, World.drewN_drewN _ _ _⟩ | exact ⟨rfl, _, Eq.trans (World.drewN_drewN _ _ _) (congrArg (World.drewN _) (Nat.add_assoc _ _ _))⟩)) | (go_at_call 58; (with_reducible refine (spec_l01In.calls a0_1 0 (wrap64 (t210 - 1)) true _ A11.out).mono ?_); rintro e w' ⟨rfl, ⟨nd, rfl⟩⟩; (try first | exact ⟨rfl, _, World.drewN_drewN _ _ _⟩ | exact ⟨rfl, _, Eq.trans (World.drewN_drewN _ _ _) (congrArg (World.drewN _) (Nat.add_assoc _ _ _))⟩)) | (go_at_call 59; (with_reducible refine (spec_l01Full.calls t210 t214 _ A13.out).mono ?_); rintro e w' ⟨rfl, ⟨nd, rfl⟩⟩; (try first | exact ⟨rfl, _, World.drewN_drewN _ _ _⟩ | exact ⟨rfl, _, Eq.trans (World.drewN_drewN _ _ _) (congrArg (World.drewN _) (Nat.add_assoc _ _ _))⟩)) | (go_at_call 58; (with_reducible refine (spec_l01In.calls a0_2 0 t214 t215 _ A14.out).mono ?_); rintro e w' ⟨rfl, ⟨nd, rfl⟩⟩; (try first | exact ⟨rfl, _, World.drewN_drewN _ _ _⟩ | exact ⟨rfl, _, Eq.trans (World.drewN_drewN _ _ _) (congrArg (World.drewN _) (Nat.add_assoc _ _ _))⟩))); try go_wp2_with (first | (go_at_call 58; (with_reducible refine (spec_l01In.calls a0_0 0 8 true _ A7.out).mono ?_); rintro e w' ⟨rfl, ⟨nd, rfl⟩⟩; (try first | exact ⟨rfl, _, World.drewN_drewN _ _ _⟩ | exact ⟨rfl, _, Eq.trans (World.drewN_drewN _ _ _) (congrArg (World.drewN _) (Nat.add_assoc _ _ _))⟩)) | (go_at_call 58; (with_reducible refine (spec_l01In.calls t210 1 16 true _ A9.out).mono ?_); rintro e w' ⟨rfl, ⟨nd, rfl⟩⟩; (try first | exact ⟨rfl, _, World.drewN_drewN _ _ _⟩ | exact ⟨rfl, _, Eq.trans (World.drewN_drewN _ _ _) (congrArg (World.drewN _) (Nat.add_assoc _ _ _))⟩)) | (go_at_call 58; (with_reducible refine (spec_l01In.calls a0_1 0 (wrap64 (t210 - 1)) true _ A11.out).mono ?_); rintro e w' ⟨rfl, ⟨nd, rfl⟩⟩; (try first | exact ⟨rfl, _, World.drewN_drewN _ _ _⟩ | exact ⟨rfl, _, Eq.trans (World.drewN_drewN _ _ _) (congrArg (World.drewN _) (Nat.add_assoc _ _ _))⟩)) | (go_at_call 59; (with_reducible refine (spec_l01Full.calls t210 t214 _ A13.out).mono ?_); rintro e w' ⟨rfl, ⟨nd, rfl⟩⟩; (try first | exact ⟨rfl, _, World.drewN_drewN _ _ _⟩ | exact ⟨rfl, _, Eq.trans (World.drewN_drewN _ _ _) (congrArg (World.drewN _) (Nat.add_assoc _ _ _))⟩)) | (go_at_call 58; (with_reducible refine (spec_l01In.calls a0_2 0 t214 t215 _ A14.out).mono ?_); rintro e w' ⟨rfl, ⟨nd, rfl⟩⟩; (try first | exact ⟨rfl, _, World.drewN_drewN _ _ _⟩ | exact ⟨rfl, _, Eq.trans (World.drewN_drewN _ _ _) (congrArg (World.drewN _) (Nat.add_assoc _ _ _))⟩))))
     go_meet
     case rel => exact ⟨_, (!t215), (eW), H', ⟨by first | omega | exact Nat.le_refl _⟩, ⟨(bP BK209.out)⟩, ⟨bW⟩⟩
    ·replace c12 := Bool.eq_false_iff.mpr c12
     subst c12
     have H1 : (spec_l11Is.j0 k t210 true a0_0 a0_1 a0_2 l0_3) = some r := by rw [if_neg (show ¬ (false = true) by decide)] at H; exact H
     clear H
     have H := H1
     clear H1
     have H' := Aside0.mk H
     clear H
     have hcz16_0 : w6.cell? ⟨gb209, 0, none⟩ = some (.int .i64 a0_0) := (blk_cell BK209.out 0).trans rfl
     have hcz16_1 : w6.cell? ⟨gb209, 1, none⟩ = some (.int .i64 a0_1) := (blk_cell BK209.out 1).trans rfl
     have hcz16_2 : w6.cell? ⟨gb209, 2, none⟩ = some (.int .i64 a0_2) := (blk_cell BK209.out 2).trans rfl
     have hcz16_3 : w6.cell? ⟨gb209, 3, none⟩ = some (.slice A0_3 l0_3.length c0_3) := (blk_cell BK209.out 3).trans rfl
     have hfz16_0 := blk_frozen BK209.out 0
     have hfz16_1 := blk_frozen BK209.out 1
     have hfz16_2 := blk_frozen BK209.out 2
     have hfz16_3 := blk_frozen BK209.out 3
     go_wp2_with (first | (go_at_call 58; (with_reducible refine (spec_l01In.calls a0_0 0 8 true _ A7.out).mono ?_); rintro e w' ⟨rfl, ⟨nd, rfl⟩⟩; (try first | exact ⟨rfl, _, World.drewN_drewN _ _ _⟩ | exact ⟨rfl, _, Eq.trans (World.drewN_drewN _ _ _) (congrArg (World.drewN _) (Nat.add_assoc _ _ _))⟩)) | (go_at_call 58; (with_reducible refine (spec_l01In.calls t210 1 16 true _ A9.out).mono ?_); rintro e w' ⟨rfl, ⟨nd, rfl⟩⟩; (try first | exact ⟨rfl, _, World.drewN_drewN _ _ _⟩ | exact ⟨rfl, _, Eq.trans (World.drewN_drewN _ _ _) (congrArg (World.drewN _) (Nat.add_assoc _ _ _))⟩)) | (go_at_call 58; (with_reducible refine (spec_l01In.calls a0_1 0 (wrap64 (t210 - 1)) false _ A11.out).mono ?_); rintro e w' ⟨rfl, ⟨nd, rfl⟩⟩; (try first | exact ⟨rfl, _, World.drewN_drewN _ _ _⟩ | exact ⟨rfl, _, Eq.trans (World.drewN_drewN _ _ _) (congrArg (World.drewN _) (Nat.add_assoc _ _ _))⟩)))
     repeat (go_quiet (first | (go_at_call 58; (with_reducible refine (spec_l01In.calls a0_0 0 8 true _ A7.out).mono ?_); rintro e w' ⟨rfl, ⟨nd, rfl⟩⟩; (try first | exact ⟨rfl, _, World.drewN_drewN _ _ _⟩ | exact ⟨rfl, _, Eq.trans (World.drewN_drewN _ _ _) (congrArg (World.drewN _) (Nat.add_assoc _ _ _))⟩)) | (go_at_call 58; (with_reducible refine (spec_l01In.calls t210 1 16 true _ A9.out).mono ?_); rintro e w' ⟨rfl, ⟨nd, rfl⟩⟩; (try first | exact ⟨rfl, _, World.drewN_drewN _ _ _⟩ | exact ⟨rfl, _, Eq.trans (World.drewN_drewN _ _ _) (congrArg (World.drewN _) (Nat.add_assoc _ _ _))⟩)) | (go_at_call 58; (with_reducible refine (spec_l01In.calls a0_1 0 (wrap64 (t210 - 1)) false _ A11.out).mono ?_); rintro e w' ⟨rfl, ⟨nd, rfl⟩⟩; (try first | exact ⟨rfl, _, World.drewN_drewN _ _ _⟩ | exact ⟨rfl, _, Eq.trans (World.drewN_drewN _ _ _) (congrArg (World.drewN _) (Nat.add_assoc _ _ _))⟩))); try go_wp2_with (first | (go_at_call 58; (with_reducible refine (spec_l01In.calls a0_0 0 8 true _ A7.out).mono ?_); rintro e w' ⟨rfl, ⟨nd, rfl⟩⟩; (try first | exact ⟨rfl, _, World.drewN_drewN _ _ _⟩ | exact ⟨rfl, _, Eq.trans (World.drewN_drewN _ _ _) (congrArg (World.drewN _) (Nat.add_assoc _ _ _))⟩)) | (go_at_call 58; (with_reducible refine (spec_l01In.calls t210 1 16 true _ A9.out).mono ?_); rintro e w' ⟨rfl, ⟨nd, rfl⟩⟩; (try first | exact ⟨rfl, _, World.drewN_drewN _ _ _⟩ | exact ⟨rfl, _, Eq.trans (World.drewN_drewN _ _ _) (congrArg (World.drewN _) (Nat.add_assoc _ _ _))⟩)) | (go_at_call 58; (with_reducible refine (spec_l01In.calls a0_1 0 (wrap64 (t210 - 1)) false _ A11.out).mono ?_); rintro e w' ⟨rfl, ⟨nd, rfl⟩⟩; (try first | exact ⟨rfl, _, World.drewN_drewN _ _ _⟩ | exact ⟨rfl, _, Eq.trans (World.drewN_drewN _ _ _) (congrArg (World.drewN _) (Nat.add_assoc _ _ _))⟩))))
     go_meet
     case rel => exact ⟨_, (true), (eW), H', ⟨by first | omega | exact Nat.le_refl _⟩, ⟨(bP BK209.out)⟩, ⟨bW⟩⟩
   ·replace c10 := Bool.eq_false_iff.mpr c10
    subst c10
    have H1 : (spec_l11Is.j0 k t210 true a0_0 a0_1 a0_2 l0_3) = some r := by rw [if_neg (show ¬ (false = true) by decide)] at H; exact H
    clear H
    have H := H1
    clear H1
    have H' := Aside0.mk H
    clear H
    have hcz17_0 : w6.cell? ⟨gb209, 0, none⟩ = some (.int .i64 a0_0) := (blk_cell BK209.out 0).trans rfl
    have hcz17_1 : w6.cell? ⟨gb209, 1, none⟩ = some (.int .i64 a0_1) := (blk_cell BK209.out 1).trans rfl
    have hcz17_2 : w6.cell? ⟨gb209, 2, none⟩ = some (.int .i64 a0_2) := (blk_cell BK209.out 2).trans rfl
    have hcz17_3 : w6.cell? ⟨gb209, 3, none⟩ = some (.slice A0_3 l0_3.length c0_3) := (blk_cell BK209.out 3).trans rfl
    have hfz17_0 := blk_frozen BK209.out 0
    have hfz17_1 := blk_frozen BK209.out 1
    have hfz17_2 := blk_frozen BK209.out 2
    have hfz17_3 := blk_frozen BK209.out 3
    go_wp2_with (first | (go_at_call 58; (with_reducible refine (spec_l01In.calls a0_0 0 8 true _ A7.out).mono ?_); rintro e w' ⟨rfl, ⟨nd, rfl⟩⟩; (try first | exact ⟨rfl, _, World.drewN_drewN _ _ _⟩ | exact ⟨rfl, _, Eq.trans (World.drewN_drewN _ _ _) (congrArg (World.drewN _) (Nat.add_assoc _ _ _))⟩)) | (go_at_call 58; (with_reducible refine (spec_l01In.calls t210 1 16 false _ A9.out).mono ?_); rintro e w' ⟨rfl, ⟨nd, rfl⟩⟩; (try first | exact ⟨rfl, _, World.drewN_drewN _ _ _⟩ | exact ⟨rfl, _, Eq.trans (World.drewN_drewN _ _ _) (congrArg (World.drewN _) (Nat.add_assoc _ _ _))⟩)))
    repeat (go_quiet (first | (go_at_call 58; (with_reducible refine (spec_l01In.calls a0_0 0 8 true _ A7.out).mono ?_); rintro e w' ⟨rfl, ⟨nd, rfl⟩⟩; (try first | exact ⟨rfl, _, World.drewN_drewN _ _ _⟩ | exact ⟨rfl, _, Eq.trans (World.drewN_drewN _ _ _) (congrArg (World.drewN _) (Nat.add_assoc _ _ _))⟩)) | (go_at_call 58; (with_reducible refine (spec_l01In.calls t210 1 16 false _ A9.out).mono ?_); rintro e w' ⟨rfl, ⟨nd, rfl⟩⟩; (try first | exact ⟨rfl, _, World.drewN_drewN _ _ _⟩ | exact ⟨rfl, _, Eq.trans (World.drewN_drewN _ _ _) (congrArg (World.drewN _) (Nat.add_assoc _ _ _))⟩))); try go_wp2_with (first | (go_at_call 58; (with_reducible refine (spec_l01In.calls a0_0 0 8 true _ A7.out).mono ?_); rintro e w' ⟨rfl, ⟨nd, rfl⟩⟩; (try first | exact ⟨rfl, _, World.drewN_drewN _ _ _⟩ | exact ⟨rfl, _, Eq.trans (World.drewN_drewN _ _ _) (congrArg (World.drewN _) (Nat.add_assoc _ _ _))⟩)) | (go_at_call 58; (with_reducible refine (spec_l01In.calls t210 1 16 false _ A9.out).mono ?_); rintro e w' ⟨rfl, ⟨nd, rfl⟩⟩; (try first | exact ⟨rfl, _, World.drewN_drewN _ _ _⟩ | exact ⟨rfl, _, Eq.trans (World.drewN_drewN _ _ _) (congrArg (World.drewN _) (Nat.add_assoc _ _ _))⟩))))
    go_meet
    case rel => exact ⟨_, (true), (eW), H', ⟨by first | omega | exact Nat.le_refl _⟩, ⟨(bP BK209.out)⟩, ⟨bW⟩⟩
  ·replace c8 := Bool.eq_false_iff.mpr c8
   subst c8
   have H1 : (spec_l11Is.j0 k t210 true a0_0 a0_1 a0_2 l0_3) = some r := by rw [if_neg (show ¬ (false = true) by decide)] at H; exact H
   clear H
   have H := H1
   clear H1
   have H' := Aside0.mk H
   clear H
   have hcz18_0 : w6.cell? ⟨gb209, 0, none⟩ = some (.int .i64 a0_0) := (blk_cell BK209.out 0).trans rfl
   have hcz18_1 : w6.cell? ⟨gb209, 1, none⟩ = some (.int .i64 a0_1) := (blk_cell BK209.out 1).trans rfl
   have hcz18_2 : w6.cell? ⟨gb209, 2, none⟩ = some (.int .i64 a0_2) := (blk_cell BK209.out 2).trans rfl
   have hcz18_3 : w6.cell? ⟨gb209, 3, none⟩ = some (.slice A0_3 l0_3.length c0_3) := (blk_cell BK209.out 3).trans rfl
   have hfz18_0 := blk_frozen BK209.out 0
   have hfz18_1 := blk_frozen BK209.out 1
   have hfz18_2 := blk_frozen BK209.out 2
   have hfz18_3 := blk_frozen BK209.out 3
   go_wp2_with (first | (go_at_call 58; (with_reducible refine (spec_l01In.calls a0_0 0 8 false _ A7.out).mono ?_); rintro e w' ⟨rfl, ⟨nd, rfl⟩⟩; (try first | exact ⟨rfl, _, World.drewN_drewN _ _ _⟩ | exact ⟨rfl, _, Eq.trans (World.drewN_drewN _ _ _) (congrArg (World.drewN _) (Nat.add_assoc _ _ _))⟩)))
   repeat (go_quiet (first | (go_at_call 58; (with_reducible refine (spec_l01In.calls a0_0 0 8 false _ A7.out).mono ?_); rintro e w' ⟨rfl, ⟨nd, rfl⟩⟩; (try first | exact ⟨rfl, _, World.drewN_drewN _ _ _⟩ | exact ⟨rfl, _, Eq.trans (World.drewN_drewN _ _ _) (congrArg (World.drewN _) (Nat.add_assoc _ _ _))⟩))); try go_wp2_with (first | (go_at_call 58; (with_reducible refine (spec_l01In.calls a0_0 0 8 false _ A7.out).mono ?_); rintro e w' ⟨rfl, ⟨nd, rfl⟩⟩; (try first | exact ⟨rfl, _, World.drewN_drewN _ _ _⟩ | exact ⟨rfl, _, Eq.trans (World.drewN_drewN _ _ _) (congrArg (World.drewN _) (Nat.add_assoc _ _ _))⟩))))
   go_meet
   case rel => exact ⟨_, (true), (eW), H', ⟨by first | omega | exact Nat.le_refl _⟩, ⟨(bP BK209.out)⟩, ⟨bW⟩⟩
 case rest =>
  clear HC3
  try clear c1
  try clear p2
  try clear c3
  try clear p6
  try clear c8
  try clear c10
  try clear c12
  try clear hcz15_0
  try clear hcz15_1
  try clear hcz15_2
  try clear hcz15_3
  try clear hcz16_0
  try clear hcz16_1
  try clear hcz16_2
  try clear hcz16_3
  try clear hcz17_0
  try clear hcz17_1
  try clear hcz17_2
  try clear hcz17_3
  try clear hcz18_0
  try clear hcz18_1
  try clear hcz18_2
  try clear hcz18_3
  try clear hcz5_0
  try clear hcz5_1
  try clear hcz5_2
  try clear hcz5_3
  try clear hfz15_0
  try clear hfz15_1
  try clear hfz15_2
  try clear hfz15_3
  try clear hfz16_0
  try clear hfz16_1
  try clear hfz16_2
  try clear hfz16_3
  try clear hfz17_0
  try clear hfz17_1
  try clear hfz17_2
  try clear hfz17_3
  try clear hfz18_0
  try clear hfz18_1
  try clear hfz18_2
  try clear hfz18_3
  try clear hfz5_0
  try clear hfz5_1
  try clear hfz5_2
  try clear hfz5_3
  obtain ⟨kq, x32_2, rfl, HA, HJ2, BK209, HB⟩ := hcut
  cases kq with
  | zero => exact absurd HA.out (by simp [spec_l11Is.j0])
  | succ kj2 =>
   have H := HA.out
   clear HA
   simp only [spec_l11Is.j0] at H
   by_cases c19 : x32_2 = true
   ·subst c19
    have H1 : (some false) = some r := by rw [if_pos rfl] at H; exact H
    clear H
    have H := H1
    clear H1
    obtain rfl := Option.some.inj H
    go_wp2
    repeat (go_quiet (fail); try go_wp2)
    go_ret
    exact ⟨eW, bW⟩
   ·replace c19 := Bool.eq_false_iff.mpr c19
    subst c19
    have H1 : (spec_l11Is.l0 kj2 t210 0 a0_0 a0_1 a0_2 l0_3) = some r := by rw [if_neg (show ¬ (false = true) by decide)] at H; exact H
    clear H
    have H := H1
    clear H1
    have H' := Aside0.mk H
    clear H
    go_wp2
    repeat (go_quiet (fail); try go_wp2)
    go_loopg [4] kj2 (fun kq v4 w' => ∃ (x4_2 : Int), v4 = .int .i64 x4_2 ∧ Aside0 (spec_l11Is.l0 kq t210 x4_2 a0_0 a0_1 a0_2 l0_3 = some r) ∧ Aside0 (kq ≤ kj2) ∧ Aside0 (w'.heap[gb209]? = some (.cells #[.int .i64 a0_0, .int .i64 a0_1, .int .i64 a0_2, (.slice A0_3 l0_3.length c0_3)] 38 (0, 0))) ∧ Aside0 (Below w.heap.size w w'))
    case atStart => exact ⟨(0), (eW), H', ⟨Nat.le_refl _⟩, ⟨(bP BK209.out)⟩, ⟨bW⟩⟩
    case round =>
     clear H'
     try clear c1
     try clear p2
     try clear c3
     try clear p6
     try clear c8
     try clear c10
     try clear c12
     try clear c19
     try clear hcz15_0
     try clear hcz15_1
     try clear hcz15_2
     try clear hcz15_3
     try clear hcz16_0
     try clear hcz16_1
     try clear hcz16_2
     try clear hcz16_3
     try clear hcz17_0
     try clear hcz17_1
     try clear hcz17_2
     try clear hcz17_3
     try clear hcz18_0
     try clear hcz18_1
     try clear hcz18_2
     try clear hcz18_3
     try clear hcz5_0
     try clear hcz5_1
     try clear hcz5_2
     try clear hcz5_3
     try clear hfz15_0
     try clear hfz15_1
     try clear hfz15_2
     try clear hfz15_3
     try clear hfz16_0
     try clear hfz16_1
     try clear hfz16_2
     try clear hfz16_3
     try clear hfz17_0
     try clear hfz17_1
     try clear hfz17_2
     try clear hfz17_3
     try clear hfz18_0
     try clear hfz18_1
     try clear hfz18_2
     try clear hfz18_3
     try clear hfz5_0
     try clear hfz5_1
     try clear hfz5_2
     try clear hfz5_3
     try clear p2
     try clear p6
     obtain ⟨x4_2, rfl, HA, HK2, BK209, HB⟩ := hrel
     cases gk with
     | zero => exact absurd HA.out (by simp [spec_l11Is.l0])
     | succ k2 =>
      have H := HA.out
      clear HA
      simp only [spec_l11Is.l0] at H
      by_cases c20 : x4_2 < t210
      ·rw [if_pos c20] at H
       have c20b0 : decide (x4_2 < t210) = true := decide_eq_true c20
       clear c20
       by_cases c21 : 0 ≤ x4_2
       ·rw [if_pos c21] at H
        have c21b0 : decide (0 ≤ x4_2) = true := decide_eq_true c21
        clear c21
        by_cases c22 : x4_2 < (l0_3.length : Int)
        ·rw [if_pos c22] at H
         have c22b0 : decide (x4_2 < (l0_3.length : Int)) = true := decide_eq_true c22
         clear c22
         by_cases c23 : ((rd_L1 l0_3 x4_2).length : Int) = a0_0
         ·rw [if_pos c23] at H
          have c23b0 : (((rd_L1 l0_3 x4_2).length : Int) == a0_0) = true := beq_iff_eq.mpr c23
          have c23b1 : (((rd_L1 l0_3 x4_2).length : Int) != a0_0) = false := bne_eq_false_iff_eq.mpr c23
          clear c23
          have H' := Aside0.mk H
          clear H
          have hcz24_0 : wr.cell? ⟨gb209, 0, none⟩ = some (.int .i64 a0_0) := (blk_cell BK209.out 0).trans rfl
          have hcz24_1 : wr.cell? ⟨gb209, 1, none⟩ = some (.int .i64 a0_1) := (blk_cell BK209.out 1).trans rfl
          have hcz24_2 : wr.cell? ⟨gb209, 2, none⟩ = some (.int .i64 a0_2) := (blk_cell BK209.out 2).trans rfl
          have hcz24_3 : wr.cell? ⟨gb209, 3, none⟩ = some (.slice A0_3 l0_3.length c0_3) := (blk_cell BK209.out 3).trans rfl
          have hfz24_0 := blk_frozen BK209.out 0
          have hfz24_1 := blk_frozen BK209.out 1
          have hfz24_2 := blk_frozen BK209.out 2
          have hfz24_3 := blk_frozen BK209.out 3
          have p216 : 0 ≤ (x4_2 : Int) := ofD
          have q216 : x4_2 < (l0_3.length : Int) := ofD
          obtain ⟨ad216, A216_0, c216_0, e216, hx216_0, hl216_0, hi216_0⟩ := at_L1 HR0_3.out x4_2 p216 q216
          cases e216
          replace hx216_0 := (HB.out.cell (World.block_lt_of_cell? w _ hx216_0)).trans hx216_0
          have HR216_0 := Aside0.mk hi216_0
          have HC216_0 := Aside0.mk hl216_0
          clear hi216_0 hl216_0
          replace p216 := eq_true p216
          replace q216 := eq_true q216
          go_wp2
          repeat (go_quiet (fail); try go_wp2)
          go_loopg [5] k2 (fun kq v5 w' => ∃ (x5_3 : Int), v5 = .int .i64 x5_3 ∧ Aside0 (spec_l11Is.l1 kq t210 x4_2 x5_3 a0_0 a0_1 a0_2 l0_3 = some r) ∧ Aside0 (kq ≤ k2) ∧ Aside0 (w'.heap[gb209]? = some (.cells #[.int .i64 a0_0, .int .i64 a0_1, .int .i64 a0_2, (.slice (some ad216) l0_3.length c0_3)] 38 (0, 0))) ∧ Aside0 (Below w.heap.size w w'))
          case atStart => exact ⟨(0), (eW), H', ⟨Nat.le_refl _⟩, ⟨(bP BK209.out)⟩, ⟨bW⟩⟩
          case round =>
           clear H'
           try clear c1
           try clear c2
           try clear p2
           try clear q2
           try clear hx2
           try clear c3
           try clear p6
           try clear c8
           try clear c10
           try clear c12
           try clear c19
           try clear c20
           try clear c20b0
           try clear c21
           try clear c21b0
           try clear p21
           try clear q21
           try clear hx21
           try clear c22
           try clear c22b0
           try clear c23
           try clear c23b0
           try clear c23b1
           try clear hcz15_0
           try clear hcz15_1
           try clear hcz15_2
           try clear hcz15_3
           try clear hcz16_0
           try clear hcz16_1
           try clear hcz16_2
           try clear hcz16_3
           try clear hcz17_0
           try clear hcz17_1
           try clear hcz17_2
           try clear hcz17_3
           try clear hcz18_0
           try clear hcz18_1
           try clear hcz18_2
           try clear hcz18_3
           try clear hcz24_0
           try clear hcz24_1
           try clear hcz24_2
           try clear hcz24_3
           try clear hcz5_0
           try clear hcz5_1
           try clear hcz5_2
           try clear hcz5_3
           try clear hfz15_0
           try clear hfz15_1
           try clear hfz15_2
           try clear hfz15_3
           try clear hfz16_0
           try clear hfz16_1
           try clear hfz16_2
           try clear hfz16_3
           try clear hfz17_0
           try clear hfz17_1
           try clear hfz17_2
           try clear hfz17_3
           try clear hfz18_0
           try clear hfz18_1
           try clear hfz18_2
           try clear hfz18_3
           try clear hfz24_0
           try clear hfz24_1
           try clear hfz24_2
           try clear hfz24_3
           try clear hfz5_0
           try clear hfz5_1
           try clear hfz5_2
           try clear hfz5_3
           try clear hx216_0
           try clear p2
           try clear p216
           try clear p6
           try clear q216
           obtain ⟨x5_3, rfl, HA, HK3, BK209, HB⟩ := hrel
           cases gk with
           | zero => exact absurd HA.out (by simp [spec_l11Is.l1])
           | succ k3 =>
            have H := HA.out
            clear HA
            simp only [spec_l11Is.l1] at H
            by_cases c25 : x5_3 < a0_0
            ·rw [if_pos c25] at H
             have c25b0 : decide (x5_3 < a0_0) = true := decide_eq_true c25
             clear c25
             by_cases c26 : 0 ≤ x4_2
             ·rw [if_pos c26] at H
              have c26b0 : decide (0 ≤ x4_2) = true := decide_eq_true c26
              clear c26
              by_cases c27 : x4_2 < (l0_3.length : Int)
              ·rw [if_pos c27] at H
               have c27b0 : decide (x4_2 < (l0_3.length : Int)) = true := decide_eq_true c27
               clear c27
               by_cases c28 : 0 ≤ x5_3
               ·rw [if_pos c28] at H
                have c28b0 : decide (0 ≤ x5_3) = true := decide_eq_true c28
                clear c28
                by_cases c29 : x5_3 < ((rd_L1 l0_3 x4_2).length : Int)
                ·rw [if_pos c29] at H
                 have c29b0 : decide (x5_3 < ((rd_L1 l0_3 x4_2).length : Int)) = true := decide_eq_true c29
                 clear c29
                 replace H := Option.bind_eq_some_iff.mp H
                 obtain ⟨t219, A300, H⟩ := H
                 replace H : (if t219 = true then (spec_l11Is.l1 k3 t210 x4_2 (wrap64 (x5_3 + 1)) a0_0 a0_1 a0_2 l0_3) else (some false)) = some r := H
                 have A30 := Aside0.mk A300
                 clear A300
                 by_cases c31 : t219 = true
                 ·subst c31
                  have H1 : (spec_l11Is.l1 k3 t210 x4_2 (wrap64 (x5_3 + 1)) a0_0 a0_1 a0_2 l0_3) = some r := by rw [if_pos rfl] at H; exact H
                  clear H
                  have H := H1
                  clear H1
                  have H' := Aside0.mk H
                  clear H
                  have hcz32_0 : wr.cell? ⟨gb209, 0, none⟩ = some (.int .i64 a0_0) := (blk_cell BK209.out 0).trans rfl
                  have hcz32_1 : wr.cell? ⟨gb209, 1, none⟩ = some (.int .i64 a0_1) := (blk_cell BK209.out 1).trans rfl
                  have hcz32_2 : wr.cell? ⟨gb209, 2, none⟩ = some (.int .i64 a0_2) := (blk_cell BK209.out 2).trans rfl
                  have hcz32_3 : wr.cell? ⟨gb209, 3, none⟩ = some (.slice (some ad216) l0_3.length c0_3) := (blk_cell BK209.out 3).trans rfl
                  have hfz32_0 := blk_frozen BK209.out 0
                  have hfz32_1 := blk_frozen BK209.out 1
                  have hfz32_2 := blk_frozen BK209.out 2
                  have hfz32_3 := blk_frozen BK209.out 3
                  have p217 : 0 ≤ (x4_2 : Int) := ofD
                  have q217 : x4_2 < (l0_3.length : Int) := ofD
                  obtain ⟨ad217, A217_0, c217_0, e217, hx217_0, hl217_0, hi217_0⟩ := at_L1 HR0_3.out x4_2 p217 q217
                  obtain rfl : ad216 = ad217 := (by injection e217)
                  replace hx217_0 := (HB.out.cell (World.block_lt_of_cell? w _ hx217_0)).trans hx217_0
                  have HR217_0 := Aside0.mk hi217_0
                  have HC217_0 := Aside0.mk hl217_0
                  clear hi217_0 hl217_0
                  replace p217 := eq_true p217
                  replace q217 := eq_true q217
                  have p218 : 0 ≤ (x5_3 : Int) := ofD
                  have q218 : x5_3 < ((rd_L1 l0_3 x4_2).length : Int) := ofD
                  obtain ⟨ad218, e218, hx218_0⟩ := Kd.at_int HR217_0.out x5_3 p218 q218
                  cases e218
                  replace hx218_0 := (HB.out.cell (World.block_lt_of_cell? w _ hx218_0)).trans hx218_0
                  replace p218 := eq_true p218
                  replace q218 := eq_true q218
                  go_wp2_with (first | (go_at_call 58; (with_reducible refine (spec_l01In.calls (rd (rd_L1 l0_3 x4_2) x5_3) (-1) (wrap64 (t210 - 1)) true _ A30.out).mono ?_); rintro e w' ⟨rfl, ⟨nd, rfl⟩⟩; (try first | exact ⟨rfl, _, World.drewN_drewN _ _ _⟩ | exact ⟨rfl, _, Eq.trans (World.drewN_drewN _ _ _) (congrArg (World.drewN _) (Nat.add_assoc _ _ _))⟩)))
                  repeat (go_quiet (first | (go_at_call 58; (with_reducible refine (spec_l01In.calls (rd (rd_L1 l0_3 x4_2) x5_3) (-1) (wrap64 (t210 - 1)) true _ A30.out).mono ?_); rintro e w' ⟨rfl, ⟨nd, rfl⟩⟩; (try first | exact ⟨rfl, _, World.drewN_drewN _ _ _⟩ | exact ⟨rfl, _, Eq.trans (World.drewN_drewN _ _ _) (congrArg (World.drewN _) (Nat.add_assoc _ _ _))⟩))); try go_wp2_with (first | (go_at_call 58; (with_reducible refine (spec_l01In.calls (rd (rd_L1 l0_3 x4_2) x5_3) (-1) (wrap64 (t210 - 1)) true _ A30.out).mono ?_); rintro e w' ⟨rfl, ⟨nd, rfl⟩⟩; (try first | exact ⟨rfl, _, World.drewN_drewN _ _ _⟩ | exact ⟨rfl, _, Eq.trans (World.drewN_drewN _ _ _) (congrArg (World.drewN _) (Nat.add_assoc _ _ _))⟩))))
                  go_roundg k3
                  case measure => have := HJ2.out; have := HK2.out; have := HK3.out; omega
                  case rel => exact ⟨(wrap64 (x5_3 + 1)), (eW), H', ⟨by have := HJ2.out; have := HK2.out; have := HK3.out; omega⟩, ⟨(bP BK209.out)⟩, ⟨bW⟩⟩
                 ·replace c31 := Bool.eq_false_iff.mpr c31
                  subst c31
                  have H1 : (some false) = some r := by rw [if_neg (show ¬ (false = true) by decide)] at H; exact H
                  clear H
                  have H := H1
                  clear H1
                  obtain rfl := Option.some.inj H
                  have hcz33_0 : wr.cell? ⟨gb209, 0, none⟩ = some (.int .i64 a0_0) := (blk_cell BK209.out 0).trans rfl
                  have hcz33_1 : wr.cell? ⟨gb209, 1, none⟩ = some (.int .i64 a0_1) := (blk_cell BK209.out 1).trans rfl
                  have hcz33_2 : wr.cell? ⟨gb209, 2, none⟩ = some (.int .i64 a0_2) := (blk_cell BK209.out 2).trans rfl
                  have hcz33_3 : wr.cell? ⟨gb209, 3, none⟩ = some (.slice (some ad216) l0_3.length c0_3) := (blk_cell BK209.out 3).trans rfl
                  have hfz33_0 := blk_frozen BK209.out 0
                  have hfz33_1 := blk_frozen BK209.out 1
                  have hfz33_2 := blk_frozen BK209.out 2
                  have hfz33_3 := blk_frozen BK209.out 3
                  have p217 : 0 ≤ (x4_2 : Int) := ofD
                  have q217 : x4_2 < (l0_3.length : Int) := ofD
                  obtain ⟨ad217, A217_0, c217_0, e217, hx217_0, hl217_0, hi217_0⟩ := at_L1 HR0_3.out x4_2 p217 q217
                  obtain rfl : ad216 = ad217 := (by injection e217)
                  replace hx217_0 := (HB.out.cell (World.block_lt_of_cell? w _ hx217_0)).trans hx217_0
                  have HR217_0 := Aside0.mk hi217_0
                  have HC217_0 := Aside0.mk hl217_0
                  clear hi217_0 hl217_0
                  replace p217 := eq_true p217
                  replace q217 := eq_true q217
                  have p218 : 0 ≤ (x5_3 : Int) := ofD
                  have q218 : x5_3 < ((rd_L1 l0_3 x4_2).length : Int) := ofD
                  obtain ⟨ad218, e218, hx218_0⟩ := Kd.at_int HR217_0.out x5_3 p218 q218
                  cases e218
                  replace hx218_0 := (HB.out.cell (World.block_lt_of_cell? w _ hx218_0)).trans hx218_0
                  replace p218 := eq_true p218
                  replace q218 := eq_true q218
                  go_wp2_with (first | (go_at_call 58; (with_reducible refine (spec_l01In.calls (rd (rd_L1 l0_3 x4_2) x5_3) (-1) (wrap64 (t210 - 1)) false _ A30.out).mono ?_); rintro e w' ⟨rfl, ⟨nd, rfl⟩⟩; (try first | exact ⟨rfl, _, World.drewN_drewN _ _ _⟩ | exact ⟨rfl, _, Eq.trans (World.drewN_drewN _ _ _) (congrArg (World.drewN _) (Nat.add_assoc _ _ _))⟩)))
                  repeat (go_quiet (first | (go_at_call 58; (with_reducible refine (spec_l01In.calls (rd (rd_L1 l0_3 x4_2) x5_3) (-1) (wrap64 (t210 - 1)) false _ A30.out).mono ?_); rintro e w' ⟨rfl, ⟨nd, rfl⟩⟩; (try first | exact ⟨rfl, _, World.drewN_drewN _ _ _⟩ | exact ⟨rfl, _, Eq.trans (World.drewN_drewN _ _ _) (congrArg (World.drewN _) (Nat.add_assoc _ _ _))⟩))); try go_wp2_with (first | (go_at_call 58; (with_reducible refine (spec_l01In.calls (rd (rd_L1 l0_3 x4_2) x5_3) (-1) (wrap64 (t210 - 1)) false _ A30.out).mono ?_); rintro e w' ⟨rfl, ⟨nd, rfl⟩⟩; (try first | exact ⟨rfl, _, World.drewN_drewN _ _ _⟩ | exact ⟨rfl, _, Eq.trans (World.drewN_drewN _ _ _) (congrArg (World.drewN _) (Nat.add_assoc _ _ _))⟩))))
                  go_ret
                  exact ⟨eW, bW⟩
                ·rw [if_neg c29] at H
                 exact absurd H (by simp)
               ·rw [if_neg c28] at H
                exact absurd H (by simp)
              ·rw [if_neg c27] at H
               exact absurd H (by simp)
             ·rw [if_neg c26] at H
              exact absurd H (by simp)
            ·rw [if_neg c25] at H
             have c25b0 : decide (x5_3 < a0_0) = false := decide_eq_false c25
             clear c25
             have H' := Aside0.mk H
             clear H
             have hcz34_0 : wr.cell? ⟨gb209, 0, none⟩ = some (.int .i64 a0_0) := (blk_cell BK209.out 0).trans rfl
             have hcz34_1 : wr.cell? ⟨gb209, 1, none⟩ = some (.int .i64 a0_1) := (blk_cell BK209.out 1).trans rfl
             have hcz34_2 : wr.cell? ⟨gb209, 2, none⟩ = some (.int .i64 a0_2) := (blk_cell BK209.out 2).trans rfl
             have hcz34_3 : wr.cell? ⟨gb209, 3, none⟩ = some (.slice (some ad216) l0_3.length c0_3) := (blk_cell BK209.out 3).trans rfl
             have hfz34_0 := blk_frozen BK209.out 0
             have hfz34_1 := blk_frozen BK209.out 1
             have hfz34_2 := blk_frozen BK209.out 2
             have hfz34_3 := blk_frozen BK209.out 3
             go_wp2
             repeat (go_quiet (fail); try go_wp2)
             go_roundg k3
             case measure => have := HJ2.out; have := HK2.out; have := HK3.out; omega
             case rel => exact ⟨(wrap64 (x4_2 + 1)), (eW), H', ⟨by have := HJ2.out; have := HK2.out; have := HK3.out; omega⟩, ⟨(bP BK209.out)⟩, ⟨bW⟩⟩
         ·rw [if_neg c23] at H
          have c23b0 : (((rd_L1 l0_3 x4_2).length : Int) == a0_0) = false := beq_eq_false_iff_ne.mpr c23
          have c23b1 : (((rd_L1 l0_3 x4_2).length : Int) != a0_0) = true := bne_iff_ne.mpr c23
          obtain rfl := Option.some.inj H
          have hcz35_0 : wr.cell? ⟨gb209, 0, none⟩ = some (.int .i64 a0_0) := (blk_cell BK209.out 0).trans rfl
          have hcz35_1 : wr.cell? ⟨gb209, 1, none⟩ = some (.int .i64 a0_1) := (blk_cell BK209.out 1).trans rfl
          have hcz35_2 : wr.cell? ⟨gb209, 2, none⟩ = some (.int .i64 a0_2) := (blk_cell BK209.out 2).trans rfl
          have hcz35_3 : wr.cell? ⟨gb209, 3, none⟩ = some (.slice A0_3 l0_3.length c0_3) := (blk_cell BK209.out 3).trans rfl
          have hfz35_0 := blk_frozen BK209.out 0
          have hfz35_1 := blk_frozen BK209.out 1
          have hfz35_2 := blk_frozen BK209.out 2
          have hfz35_3 := blk_frozen BK209.out 3
          have p216 : 0 ≤ (x4_2 : Int) := ofD
          have q216 : x4_2 < (l0_3.length : Int) := ofD
          obtain ⟨ad216, A216_0, c216_0, e216, hx216_0, hl216_0, hi216_0⟩ := at_L1 HR0_3.out x4_2 p216 q216
          cases e216
          replace hx216_0 := (HB.out.cell (World.block_lt_of_cell? w _ hx216_0)).trans hx216_0
          have HR216_0 := Aside0.mk hi216_0
          have HC216_0 := Aside0.mk hl216_0
          clear hi216_0 hl216_0
          replace p216 := eq_true p216
          replace q216 := eq_true q216
          go_wp2
          repeat (go_quiet (fail); try go_wp2)
          go_ret
          exact ⟨eW, bW⟩
        ·rw [if_neg c22] at H
         exact absurd H (by simp)
       ·rw [if_neg c21] at H
        exact absurd H (by simp)
      ·rw [if_neg c20] at H
       have c20b0 : decide (x4_2 < t210) = false := decide_eq_false c20
       clear c20
       obtain rfl := Option.some.inj H
       go_wp2
       repeat (go_quiet (fail); try go_wp2)
       go_ret
       exact ⟨eW, bW⟩

/-! ### spec_IsAutomaton: function 17 -/
def spec_IsAutomaton.f (k : Nat) (a0_0 : Int) (a0_1 : Int) (a0_2 : Int) (l0_3 : List (List Int)) : Option (Bool) := (spec_l11Is.f k a0_0 a0_1 a0_2 l0_3).bind fun t221 => (some t221)
theorem spec_IsAutomaton.mono : ∀ a0 a1 a2 a3 k, LeO (spec_IsAutomaton.f k a0 a1 a2 a3) (spec_IsAutomaton.f (k + 1) a0 a1 a2 a3) := by
 intro a0 a1 a2 a3 k
 unfold spec_IsAutomaton.f
 repeat' first
   | (with_reducible exact spec_l11Is.mono _ _ _ _ _)
   | (with_reducible exact LeO.refl _)
   | (with_reducible exact LeO.none _)
   | (with_reducible refine LeO.ite ?_ ?_)
   | (with_reducible refine LeO.bind ?_ (fun _ => ?_))
   | exact spec_l11Is.mono _ _ _ _ _
   | exact LeO.none _
   | refine LeO.ite ?_ ?_
   | refine LeO.bind ?_ (fun _ => ?_)
set_option maxHeartbeats 8000000 in
set_option maxRecDepth 100000 in
theorem spec_IsAutomaton.calls (k : Nat) (a0_0 : Int) (a0_1 : Int) (a0_2 : Int) (A0_3 : Option Addr) (c0_3 : Nat) (l0_3 : List (List Int)) (r : Bool) (w : World) (hr0_3 : Kd.C (Kd.slice 2 (Kd.int .i64)) w A0_3 l0_3.length l0_3) (hc0_3 : l0_3.length ≤ c0_3) (h : spec_IsAutomaton.f k a0_0 a0_1 a0_2 l0_3 = some r) :
  Calls Try.prog 17 #[.agg #[.int .i64 a0_0, .int .i64 a0_1, .int .i64 a0_2, .slice A0_3 l0_3.length c0_3]] w fun e w' => e = .returned (.bool r) ∧ Below w.heap.size w w' := by
 have hu38 := Try.underlying38
 have HR0_3 := Aside0.mk hr0_3
 have HC0_3 := Aside0.mk hc0_3
 clear hr0_3 hc0_3
 have HB := Aside0.mk (Below.refl w.heap.size w)
 have H : ((spec_l11Is.f k a0_0 a0_1 a0_2 l0_3).bind fun t221 => (some t221)) = some r := h
 clear h
 replace H := Option.bind_eq_some_iff.mp H
 obtain ⟨t221, A20, H⟩ := H
 replace H : (some t221) = some r := H
 have A2 := Aside0.mk A20
 clear A20
 obtain rfl := Option.some.inj H
 go_enter Try.func17, Try.ntmps17
 go_wp2_with (first | ((with_reducible refine gate_dst (N := 1) rfl ?_); refine boxS (N := 1) (cs := #[.int .i64 a0_0, .int .i64 a0_1, .int .i64 a0_2, .slice A0_3 l0_3.length c0_3]) (t := 38) ?_; intro gb220 hg w3 hbox hb; have n0_ := Aside0.mk (below_step (bW) hb); have n1_ := Aside0.mk (hbox); have n2_ := geW (w := w) hg; have n3_ := geW (w := w) hg; clear HB; have HB := n0_; have BK220 := n1_; have GW220 := n2_; have GE220 := n3_; clear n0_ n1_ n2_ n3_; clear hb hbox hg; obtain ⟨hcz4_0, hcz4_1, hcz4_2, hcz4_3⟩ := cells4 BK220.out; obtain ⟨hfz4_0, hfz4_1, hfz4_2, hfz4_3⟩ := frz4 BK220.out) | ((with_reducible refine gate_callee (f := 33) rfl ?_); refine goesS (some 4) Try.func33 #[.agg #[.int .i64 a0_0, .int .i64 a0_1, .int .i64 a0_2, .slice A0_3 l0_3.length c0_3]] ?_; (with_reducible refine (spec_l11Is.calls k a0_0 a0_1 a0_2 _ _ l0_3 t221 _ ?side1 ?side2 A2.out).mono ?_); (case side1 => exact cP (Kd.C_below HR0_3.out HB.out)); (case side2 => exact HC0_3.out); rintro e w5 ⟨rfl, hb⟩; refine ⟨_, rfl, ?_⟩; have n0_ := Aside0.mk (blkB BK220.out hb); have n1_ := Aside0.mk (below_step (bW) hb); clear BK220; clear HB; have BK220 := n0_; have HB := n1_; clear n0_ n1_; (try clear hb); (try clear hb2); (try clear hk); (try clear hi)))
 go_ret
 exact ⟨eW, bW⟩

end Go.Proofs.Ytcibmpomidhgiaa.P
end M0
