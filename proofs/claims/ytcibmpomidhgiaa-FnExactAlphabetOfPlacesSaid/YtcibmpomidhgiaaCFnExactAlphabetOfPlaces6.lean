/- For every number and every list of places, the program's AlphabetOfPlaces answers what the reference's answers, in memory of its own, and leaves its argument as it was. No condition. -/
import Derived.ArgAppend
import Derived.Below
import Derived.BigQuiet
import Derived.ChangeOld
import Derived.ChangeShapes
import Derived.Deep.AppendLies
import Derived.Deep.CutBlock
import Derived.Deep.DeepCutAuto
import Derived.Deep.Draws
import Derived.Deep.LoopGhost
import Derived.Deep.OwnRows
import Derived.Deep.QuietTactic
import Derived.Deep.RegionHeld3
import Derived.Deep.Slices
import Derived.KernelRfl
import Derived.Laws.BitsLemmas
import Derived.Laws.BytesArg
import Derived.Laws.IdiomCopy
import Derived.Laws.MakeOwn
import Derived.Laws.OwnMore
import Derived.Laws.Rows
import Derived.Laws.Slices
import Derived.Laws.StructEq
import Derived.Lib.AppendStr
import Derived.Lib.ConvBytes
import Derived.Lib.SliceRun
import Derived.Lib.SmallJoins
import Derived.Maps.AppendAt
import Derived.OpenShut
import Derived.OrdersHeld
import Derived.OwnWalk
import Derived.ProofKit
import Derived.RowKit
import Derived.RowKit3
import Derived.Shelf.Abstract
import Derived.ShutString
import Derived.SizedLaws
import Derived.Tactics
import Derived.Test.YtcibmpomidhgiaaProg
import Derived.Test.YtcibmpomidhgiaaRows
import Derived.WalkKit
import Derived.WideLaws
import Derived.Test.YtcibmpomidhgiaaCFnExactAlphabetOfPlaces2
import Derived.Test.YtcibmpomidhgiaaCFnExactAlphabetOfPlaces3
import Derived.Test.YtcibmpomidhgiaaCFnExactAlphabetOfPlaces4
import Derived.Test.YtcibmpomidhgiaaCFnExactAlphabetOfPlaces5
section M0
namespace Go.Proofs.Ytcibmpomidhgiaa.P
open Go.RowKit Go.Proofs.Ytcibmpomidhgiaa.Sh Go.Proofs.YtcibmpomidhgiaaW.PrintWords Go.Proofs.YtcibmpomidhgiaaW.PrintLast Go.Proofs.YtcibmpomidhgiaaW.PrintMore
attribute [local go_sem] max2_int min2_int max_two min_two max_three min_three max_four min_four   -- for this text's walks alone
set_option linter.unusedVariables false
set_option linter.unusedSimpArgs false

/-! ### laws_szInt64SS: function 32 -/
def laws_szInt64SS.l0 : Nat → List (List Int) → Int → Int → Option (Int)
 | 0, _, _, _ => none
 | k + 1, x0, x1, x5 => if x5 < (x0.length : Int) then (if 0 ≤ x5 then ((laws_szInt64S.f (rd_L1 x0 x5) x1).bind fun t205 => (if t205 < 0 then (some (-1)) else (laws_szInt64SS.l0 k x0 t205 (wrap64 (x5 + 1))))) else (none)) else (some x1)
def laws_szInt64SS.f (k : Nat) (l0 : List (List Int)) (a1 : Int) : Option (Int) := if (wrap64 (a1 - (l0.length : Int))) < 0 then (some (-1)) else (laws_szInt64SS.l0 k l0 (wrap64 (a1 - (l0.length : Int))) 0)
theorem laws_szInt64SS.mono_l : ∀ k, (∀ y0 y1 y2, LeO (laws_szInt64SS.l0 k y0 y1 y2) (laws_szInt64SS.l0 (k + 1) y0 y1 y2))
 | 0 => fun _ _ _ r h => by simp [laws_szInt64SS.l0] at h
 | k + 1 => by
  have ih0 := laws_szInt64SS.mono_l k
  ·intro y0 y1 y2
   unfold laws_szInt64SS.l0
   repeat' first
   | (with_reducible exact ih0 _ _ _)
   | (with_reducible exact LeO.refl _)
   | (with_reducible exact LeO.none _)
   | (with_reducible refine LeO.ite ?_ ?_)
   | (with_reducible refine LeO.bind ?_ (fun _ => ?_))
   | exact ih0 _ _ _
   | exact LeO.none _
   | refine LeO.ite ?_ ?_
   | refine LeO.bind ?_ (fun _ => ?_)
theorem laws_szInt64SS.mono : ∀ a0 a1 k, LeO (laws_szInt64SS.f k a0 a1) (laws_szInt64SS.f (k + 1) a0 a1) := by
 intro a0 a1 k
 have ih0 := laws_szInt64SS.mono_l k
 unfold laws_szInt64SS.f
 repeat' first
   | (with_reducible exact ih0 _ _ _)
   | (with_reducible exact LeO.refl _)
   | (with_reducible exact LeO.none _)
   | (with_reducible refine LeO.ite ?_ ?_)
   | (with_reducible refine LeO.bind ?_ (fun _ => ?_))
   | exact ih0 _ _ _
   | exact LeO.none _
   | refine LeO.ite ?_ ?_
   | refine LeO.bind ?_ (fun _ => ?_)
set_option maxHeartbeats 8000000 in
set_option maxRecDepth 100000 in
theorem laws_szInt64SS.calls (k : Nat) (A0 : Option Addr) (c0 : Nat) (l0 : List (List Int)) (a1 : Int) (r : Int) (w : World) (hr0 : Kd.C (Kd.slice 2 (Kd.int .i64)) w A0 l0.length l0) (hc0 : l0.length ≤ c0) (h : laws_szInt64SS.f k l0 a1 = some r) :
  Calls Try.prog 32 #[.slice A0 l0.length c0, .int .i64 a1] w fun e w' => e = .returned (.int .i64 r) ∧ Drawn0 w w' := by
 have HR0 := Aside0.mk hr0
 have HC0 := Aside0.mk hc0
 clear hr0 hc0
 have H : (if (wrap64 (a1 - (l0.length : Int))) < 0 then (some (-1)) else (laws_szInt64SS.l0 k l0 (wrap64 (a1 - (l0.length : Int))) 0)) = some r := h
 clear h
 by_cases c3 : (wrap64 (a1 - (l0.length : Int))) < 0
 ·rw [if_pos c3] at H
  have c3b0 : decide ((wrap64 (a1 - (l0.length : Int))) < 0) = true := decide_eq_true c3
  clear c3
  obtain rfl := Option.some.inj H
  go_enter Try.func32, Try.ntmps32
  go_wp2
  go_ret
  exact ⟨eW, by repeat (first | exact Drawn0.refl _ | apply Drawn0.step)⟩
 ·rw [if_neg c3] at H
  have c3b0 : decide ((wrap64 (a1 - (l0.length : Int))) < 0) = false := decide_eq_false c3
  clear c3
  have H' := Aside0.mk H
  clear H
  go_enter Try.func32, Try.ntmps32
  go_wp2
  go_loopg [1, 5] k (fun kq v1 v5 w' => ∃ (x1_1 : Int) (x5_1 : Int), v1 = .int .i64 x1_1 ∧ v5 = .int .i64 x5_1 ∧ Aside0 (laws_szInt64SS.l0 kq l0 x1_1 x5_1 = some r) ∧ Aside0 (kq ≤ k) ∧ Drawn0 w w')
  case atStart => exact ⟨(wrap64 (a1 - (l0.length : Int))), (0), (eW), (eW), H', ⟨Nat.le_refl _⟩, by repeat (first | exact Drawn0.refl _ | apply Drawn0.step)⟩
  case round =>
   clear H'
   try clear p2
   try clear c3
   try clear c3b0
   obtain ⟨x1_1, x5_1, rfl, rfl, HA, HK1, ⟨m1, rfl⟩⟩ := hrel
   cases gk with
   | zero => exact absurd HA.out (by simp [laws_szInt64SS.l0])
   | succ k1 =>
    have H := HA.out
    clear HA
    simp only [laws_szInt64SS.l0] at H
    by_cases c4 : x5_1 < (l0.length : Int)
    ·rw [if_pos c4] at H
     have c4b0 : decide (x5_1 < (l0.length : Int)) = true := decide_eq_true c4
     clear c4
     by_cases c5 : 0 ≤ x5_1
     ·rw [if_pos c5] at H
      have c5b0 : decide (0 ≤ x5_1) = true := decide_eq_true c5
      clear c5
      replace H := Option.bind_eq_some_iff.mp H
      obtain ⟨t205, A60, H⟩ := H
      replace H : (if t205 < 0 then (some (-1)) else (laws_szInt64SS.l0 k1 l0 t205 (wrap64 (x5_1 + 1)))) = some r := H
      have A6 := Aside0.mk A60
      clear A60
      by_cases c7 : t205 < 0
      ·rw [if_pos c7] at H
       have c7b0 : decide (t205 < 0) = true := decide_eq_true c7
       clear c7
       obtain rfl := Option.some.inj H
       have p204 : 0 ≤ (x5_1 : Int) := ofD
       have q204 : x5_1 < (l0.length : Int) := ofD
       obtain ⟨ad204, A204_0, c204_0, e204, hx204_0, hl204_0, hi204_0⟩ := at_L1 HR0.out x5_1 p204 q204
       cases e204
       have HR204_0 := Aside0.mk hi204_0
       have HC204_0 := Aside0.mk hl204_0
       clear hi204_0 hl204_0
       replace p204 := eq_true p204
       replace q204 := eq_true q204
       go_wp2_with (first | ((with_reducible refine gate_callee (f := 61) rfl ?_); refine goesS (some 23) Try.func61 #[.slice A204_0 (rd_L1 l0 x5_1).length c204_0, .int .i64 x1_1] ?_; (with_reducible refine (laws_szInt64S.calls _ _ (rd_L1 l0 x5_1) x1_1 t205 _ ?side1 ?side2 A6.out).mono ?_); (case side1 => exact cP HR204_0.out); (case side2 => exact HC204_0.out); rintro e w' ⟨rfl, ⟨nd, rfl⟩⟩; refine ⟨_, rfl, ?_⟩))
       go_ret
       exact ⟨eW, by repeat (first | exact Drawn0.refl _ | apply Drawn0.step)⟩
      ·rw [if_neg c7] at H
       have c7b0 : decide (t205 < 0) = false := decide_eq_false c7
       clear c7
       have H' := Aside0.mk H
       clear H
       have p204 : 0 ≤ (x5_1 : Int) := ofD
       have q204 : x5_1 < (l0.length : Int) := ofD
       obtain ⟨ad204, A204_0, c204_0, e204, hx204_0, hl204_0, hi204_0⟩ := at_L1 HR0.out x5_1 p204 q204
       cases e204
       have HR204_0 := Aside0.mk hi204_0
       have HC204_0 := Aside0.mk hl204_0
       clear hi204_0 hl204_0
       replace p204 := eq_true p204
       replace q204 := eq_true q204
       go_wp2_with (first | ((with_reducible refine gate_callee (f := 61) rfl ?_); refine goesS (some 23) Try.func61 #[.slice A204_0 (rd_L1 l0 x5_1).length c204_0, .int .i64 x1_1] ?_; (with_reducible refine (laws_szInt64S.calls _ _ (rd_L1 l0 x5_1) x1_1 t205 _ ?side1 ?side2 A6.out).mono ?_); (case side1 => exact cP HR204_0.out); (case side2 => exact HC204_0.out); rintro e w' ⟨rfl, ⟨nd, rfl⟩⟩; refine ⟨_, rfl, ?_⟩))
       go_roundg k1
       case measure => have := HK1.out; omega
       case rel => exact ⟨(t205), (wrap64 (x5_1 + 1)), (eW), (eW), H', ⟨by have := HK1.out; omega⟩, by repeat (first | exact Drawn0.refl _ | apply Drawn0.step)⟩
     ·rw [if_neg c5] at H
      exact absurd H (by simp)
    ·rw [if_neg c4] at H
     have c4b0 : decide (x5_1 < (l0.length : Int)) = false := decide_eq_false c4
     clear c4
     obtain rfl := Option.some.inj H
     go_wp2
     go_ret
     exact ⟨eW, by repeat (first | exact Drawn0.refl _ | apply Drawn0.step)⟩

/-! ### laws_szAutomaton: function 16 -/
def laws_szAutomaton.f (k : Nat) (a0_0 : Int) (a0_1 : Int) (a0_2 : Int) (l0_3 : List (List Int)) (a1 : Int) : Option (Int) := (laws_szInt64SS.f k l0_3 a1).bind fun t207 => (if t207 < 0 then (some (-1)) else (some t207))
theorem laws_szAutomaton.mono : ∀ a0 a1 a2 a3 a4 k, LeO (laws_szAutomaton.f k a0 a1 a2 a3 a4) (laws_szAutomaton.f (k + 1) a0 a1 a2 a3 a4) := by
 intro a0 a1 a2 a3 a4 k
 unfold laws_szAutomaton.f
 repeat' first
   | (with_reducible exact laws_szInt64SS.mono _ _ _)
   | (with_reducible exact LeO.refl _)
   | (with_reducible exact LeO.none _)
   | (with_reducible refine LeO.ite ?_ ?_)
   | (with_reducible refine LeO.bind ?_ (fun _ => ?_))
   | exact laws_szInt64SS.mono _ _ _
   | exact LeO.none _
   | refine LeO.ite ?_ ?_
   | refine LeO.bind ?_ (fun _ => ?_)
set_option maxHeartbeats 8000000 in
set_option maxRecDepth 100000 in
theorem laws_szAutomaton.calls (k : Nat) (a0_0 : Int) (a0_1 : Int) (a0_2 : Int) (A0_3 : Option Addr) (c0_3 : Nat) (l0_3 : List (List Int)) (a1 : Int) (r : Int) (w : World) (hr0_3 : Kd.C (Kd.slice 2 (Kd.int .i64)) w A0_3 l0_3.length l0_3) (hc0_3 : l0_3.length ≤ c0_3) (h : laws_szAutomaton.f k a0_0 a0_1 a0_2 l0_3 a1 = some r) :
  Calls Try.prog 16 #[.agg #[.int .i64 a0_0, .int .i64 a0_1, .int .i64 a0_2, .slice A0_3 l0_3.length c0_3], .int .i64 a1] w fun e w' => e = .returned (.int .i64 r) ∧ Below w.heap.size w w' := by
 have hu35 := Try.underlying35
 have HR0_3 := Aside0.mk hr0_3
 have HC0_3 := Aside0.mk hc0_3
 clear hr0_3 hc0_3
 have HB := Aside0.mk (Below.refl w.heap.size w)
 have H : ((laws_szInt64SS.f k l0_3 a1).bind fun t207 => (if t207 < 0 then (some (-1)) else (some t207))) = some r := h
 clear h
 replace H := Option.bind_eq_some_iff.mp H
 obtain ⟨t207, A30, H⟩ := H
 replace H : (if t207 < 0 then (some (-1)) else (some t207)) = some r := H
 have A3 := Aside0.mk A30
 clear A30
 by_cases c4 : t207 < 0
 ·rw [if_pos c4] at H
  have c4b0 : decide (t207 < 0) = true := decide_eq_true c4
  clear c4
  obtain rfl := Option.some.inj H
  go_enter Try.func16, Try.ntmps16
  go_wp2_with (first | ((with_reducible refine gate_dst (N := 2) rfl ?_); refine boxS (N := 2) (cs := #[.int .i64 a0_0, .int .i64 a0_1, .int .i64 a0_2, .slice A0_3 l0_3.length c0_3]) (t := 35) ?_; intro gb206 hg w5 hbox hb; have n0_ := Aside0.mk (below_step (bW) hb); have n1_ := Aside0.mk (hbox); have n2_ := geW (w := w) hg; have n3_ := geW (w := w) hg; clear HB; have HB := n0_; have BK206 := n1_; have GW206 := n2_; have GE206 := n3_; clear n0_ n1_ n2_ n3_; clear hb hbox hg; obtain ⟨hcz6_0, hcz6_1, hcz6_2, hcz6_3⟩ := cells4 BK206.out; obtain ⟨hfz6_0, hfz6_1, hfz6_2, hfz6_3⟩ := frz4 BK206.out) | ((with_reducible refine gate_callee (f := 32) rfl ?_); refine goesS (some 8) Try.func32 #[.slice A0_3 l0_3.length c0_3, .int .i64 a1] ?_; (with_reducible refine (laws_szInt64SS.calls k _ _ l0_3 a1 t207 _ ?side1 ?side2 A3.out).mono ?_); (case side1 => exact cP (Kd.C_below HR0_3.out HB.out)); (case side2 => exact HC0_3.out); rintro e w' ⟨rfl, ⟨nd, rfl⟩⟩; refine ⟨_, rfl, ?_⟩))
  go_ret
  exact ⟨eW, bW⟩
 ·rw [if_neg c4] at H
  have c4b0 : decide (t207 < 0) = false := decide_eq_false c4
  clear c4
  obtain rfl := Option.some.inj H
  go_enter Try.func16, Try.ntmps16
  go_wp2_with (first | ((with_reducible refine gate_dst (N := 2) rfl ?_); refine boxS (N := 2) (cs := #[.int .i64 a0_0, .int .i64 a0_1, .int .i64 a0_2, .slice A0_3 l0_3.length c0_3]) (t := 35) ?_; intro gb206 hg w7 hbox hb; have n0_ := Aside0.mk (below_step (bW) hb); have n1_ := Aside0.mk (hbox); have n2_ := geW (w := w) hg; have n3_ := geW (w := w) hg; clear HB; have HB := n0_; have BK206 := n1_; have GW206 := n2_; have GE206 := n3_; clear n0_ n1_ n2_ n3_; clear hb hbox hg; obtain ⟨hcz8_0, hcz8_1, hcz8_2, hcz8_3⟩ := cells4 BK206.out; obtain ⟨hfz8_0, hfz8_1, hfz8_2, hfz8_3⟩ := frz4 BK206.out) | ((with_reducible refine gate_callee (f := 32) rfl ?_); refine goesS (some 8) Try.func32 #[.slice A0_3 l0_3.length c0_3, .int .i64 a1] ?_; (with_reducible refine (laws_szInt64SS.calls k _ _ l0_3 a1 t207 _ ?side1 ?side2 A3.out).mono ?_); (case side1 => exact cP (Kd.C_below HR0_3.out HB.out)); (case side2 => exact HC0_3.out); rintro e w' ⟨rfl, ⟨nd, rfl⟩⟩; refine ⟨_, rfl, ?_⟩))
  go_ret
  exact ⟨eW, bW⟩

/-! ### spec_l11States: function 51 -/
def spec_l11States.f (a0_0 : Int) (a0_1 : Int) (a0_2 : Int) (l0_3 : List (List Int)) : Option (Int) := some (l0_3.length : Int)
set_option maxHeartbeats 8000000 in
set_option maxRecDepth 100000 in
theorem spec_l11States.calls (a0_0 : Int) (a0_1 : Int) (a0_2 : Int) (A0_3 : Option Addr) (c0_3 : Nat) (l0_3 : List (List Int)) (r : Int) (w : World) (hr0_3 : Kd.C (Kd.slice 2 (Kd.int .i64)) w A0_3 l0_3.length l0_3) (hc0_3 : l0_3.length ≤ c0_3) (h : spec_l11States.f a0_0 a0_1 a0_2 l0_3 = some r) :
  Calls Try.prog 51 #[.agg #[.int .i64 a0_0, .int .i64 a0_1, .int .i64 a0_2, .slice A0_3 l0_3.length c0_3]] w fun e w' => e = .returned (.int .i64 r) ∧ Below w.heap.size w w' := by
 have hu38 := Try.underlying38
 have HR0_3 := Aside0.mk hr0_3
 have HC0_3 := Aside0.mk hc0_3
 clear hr0_3 hc0_3
 have HB := Aside0.mk (Below.refl w.heap.size w)
 have H : (some (l0_3.length : Int)) = some r := h
 clear h
 obtain rfl := Option.some.inj H
 go_enter Try.func51, Try.ntmps51
 go_wp2_with (first | ((with_reducible refine gate_dst (N := 1) rfl ?_); refine boxS (N := 1) (cs := #[.int .i64 a0_0, .int .i64 a0_1, .int .i64 a0_2, .slice A0_3 l0_3.length c0_3]) (t := 38) ?_; intro gb208 hg w2 hbox hb; have n0_ := Aside0.mk (below_step (bW) hb); have n1_ := Aside0.mk (hbox); have n2_ := geW (w := w) hg; have n3_ := geW (w := w) hg; clear HB; have HB := n0_; have BK208 := n1_; have GW208 := n2_; have GE208 := n3_; clear n0_ n1_ n2_ n3_; clear hb hbox hg; obtain ⟨hcz3_0, hcz3_1, hcz3_2, hcz3_3⟩ := cells4 BK208.out; obtain ⟨hfz3_0, hfz3_1, hfz3_2, hfz3_3⟩ := frz4 BK208.out))
 go_ret
 exact ⟨eW, bW⟩

/-! ### spec_l11Is: function 33 -/
mutual
def spec_l11Is.j0 : Nat → Int → Bool → Int → Int → Int → List (List Int) → Option (Bool)
 | 0, _, _, _, _, _, _ => none
 | k + 1, x3, x32, x210000, x210001, x210002, x210003 => if x32 = true then (some false) else (spec_l11Is.l0 k x3 0 x210000 x210001 x210002 x210003)
def spec_l11Is.l0 : Nat → Int → Int → Int → Int → Int → List (List Int) → Option (Bool)
 | 0, _, _, _, _, _, _ => none
 | k + 1, x3, x4, x210000, x210001, x210002, x210003 => if x4 < x3 then (if 0 ≤ x4 then (if x4 < (x210003.length : Int) then (if ((rd_L1 x210003 x4).length : Int) = x210000 then (spec_l11Is.l1 k x3 x4 0 x210000 x210001 x210002 x210003) else (some false)) else (none)) else (none)) else (some true)
def spec_l11Is.l1 : Nat → Int → Int → Int → Int → Int → Int → List (List Int) → Option (Bool)
 | 0, _, _, _, _, _, _, _ => none
 | k + 1, x3, x4, x5, x210000, x210001, x210002, x210003 => if x5 < x210000 then (if 0 ≤ x4 then (if x4 < (x210003.length : Int) then (if 0 ≤ x5 then (if x5 < ((rd_L1 x210003 x4).length : Int) then ((spec_l01In.f (rd (rd_L1 x210003 x4) x5) (-1) (wrap64 (x3 - 1))).bind fun t219 => (if t219 = true then (spec_l11Is.l1 k x3 x4 (wrap64 (x5 + 1)) x210000 x210001 x210002 x210003) else (some false))) else (none)) else (none)) else (none)) else (none)) else (spec_l11Is.l0 k x3 (wrap64 (x4 + 1)) x210000 x210001 x210002 x210003)
end
def spec_l11Is.f (k : Nat) (a0_0 : Int) (a0_1 : Int) (a0_2 : Int) (l0_3 : List (List Int)) : Option (Bool) := (spec_l11States.f a0_0 a0_1 a0_2 l0_3).bind fun t210 => ((spec_l01In.f a0_0 0 8).bind fun t211 => (if t211 = true then ((spec_l01In.f t210 1 16).bind fun t212 => (if t212 = true then ((spec_l01In.f a0_1 0 (wrap64 (t210 - 1))).bind fun t213 => (if t213 = true then ((spec_l01Full.f t210).bind fun t214 => ((spec_l01In.f a0_2 0 t214).bind fun t215 => (spec_l11Is.j0 k t210 (!t215) a0_0 a0_1 a0_2 l0_3))) else (spec_l11Is.j0 k t210 true a0_0 a0_1 a0_2 l0_3))) else (spec_l11Is.j0 k t210 true a0_0 a0_1 a0_2 l0_3))) else (spec_l11Is.j0 k t210 true a0_0 a0_1 a0_2 l0_3)))
theorem spec_l11Is.mono_l : ∀ k, (∀ y0 y1 y2 y3 y4 y5, LeO (spec_l11Is.j0 k y0 y1 y2 y3 y4 y5) (spec_l11Is.j0 (k + 1) y0 y1 y2 y3 y4 y5)) ∧ (∀ y0 y1 y2 y3 y4 y5, LeO (spec_l11Is.l0 k y0 y1 y2 y3 y4 y5) (spec_l11Is.l0 (k + 1) y0 y1 y2 y3 y4 y5)) ∧ (∀ y0 y1 y2 y3 y4 y5 y6, LeO (spec_l11Is.l1 k y0 y1 y2 y3 y4 y5 y6) (spec_l11Is.l1 (k + 1) y0 y1 y2 y3 y4 y5 y6))
 | 0 => ⟨fun _ _ _ _ _ _ r h => by simp [spec_l11Is.j0] at h, fun _ _ _ _ _ _ r h => by simp [spec_l11Is.l0] at h, fun _ _ _ _ _ _ _ r h => by simp [spec_l11Is.l1] at h⟩
 | k + 1 => by
  obtain ⟨ih0, ih1, ih2⟩ := spec_l11Is.mono_l k
  refine ⟨?_, ?_, ?_⟩
  ·intro y0 y1 y2 y3 y4 y5
   unfold spec_l11Is.j0
   repeat' first
   | (with_reducible exact ih0 _ _ _ _ _ _)
   | (with_reducible exact ih1 _ _ _ _ _ _)
   | (with_reducible exact ih2 _ _ _ _ _ _ _)
   | (with_reducible exact LeO.refl _)
   | (with_reducible exact LeO.none _)
   | (with_reducible refine LeO.ite ?_ ?_)
   | (with_reducible refine LeO.bind ?_ (fun _ => ?_))
   | exact ih0 _ _ _ _ _ _
   | exact ih1 _ _ _ _ _ _
   | exact ih2 _ _ _ _ _ _ _
   | exact LeO.none _
   | refine LeO.ite ?_ ?_
   | refine LeO.bind ?_ (fun _ => ?_)
  ·intro y0 y1 y2 y3 y4 y5
   unfold spec_l11Is.l0
   repeat' first
   | (with_reducible exact ih0 _ _ _ _ _ _)
   | (with_reducible exact ih1 _ _ _ _ _ _)
   | (with_reducible exact ih2 _ _ _ _ _ _ _)
   | (with_reducible exact LeO.refl _)
   | (with_reducible exact LeO.none _)
   | (with_reducible refine LeO.ite ?_ ?_)
   | (with_reducible refine LeO.bind ?_ (fun _ => ?_))
   | exact ih0 _ _ _ _ _ _
   | exact ih1 _ _ _ _ _ _
   | exact ih2 _ _ _ _ _ _ _
   | exact LeO.none _
   | refine LeO.ite ?_ ?_
   | refine LeO.bind ?_ (fun _ => ?_)
  ·intro y0 y1 y2 y3 y4 y5 y6
   unfold spec_l11Is.l1
   repeat' first
   | (with_reducible exact ih0 _ _ _ _ _ _)
   | (with_reducible exact ih1 _ _ _ _ _ _)
   | (with_reducible exact ih2 _ _ _ _ _ _ _)
   | (with_reducible exact LeO.refl _)
   | (with_reducible exact LeO.none _)
   | (with_reducible refine LeO.ite ?_ ?_)
   | (with_reducible refine LeO.bind ?_ (fun _ => ?_))
   | exact ih0 _ _ _ _ _ _
   | exact ih1 _ _ _ _ _ _
   | exact ih2 _ _ _ _ _ _ _
   | exact LeO.none _
   | refine LeO.ite ?_ ?_
   | refine LeO.bind ?_ (fun _ => ?_)
theorem spec_l11Is.mono : ∀ a0 a1 a2 a3 k, LeO (spec_l11Is.f k a0 a1 a2 a3) (spec_l11Is.f (k + 1) a0 a1 a2 a3) := by
 intro a0 a1 a2 a3 k
 obtain ⟨ih0, ih1, ih2⟩ := spec_l11Is.mono_l k
 unfold spec_l11Is.f
 repeat' first
   | (with_reducible exact ih0 _ _ _ _ _ _)
   | (with_reducible exact ih1 _ _ _ _ _ _)
   | (with_reducible exact ih2 _ _ _ _ _ _ _)
   | (with_reducible exact LeO.refl _)
   | (with_reducible exact LeO.none _)
   | (with_reducible refine LeO.ite ?_ ?_)
   | (with_reducible refine LeO.bind ?_ (fun _ => ?_))
   | exact ih0 _ _ _ _ _ _
   | exact ih1 _ _ _ _ _ _
   | exact ih2 _ _ _ _ _ _ _
   | exact LeO.none _
   | refine LeO.ite ?_ ?_
   | refine LeO.bind ?_ (fun _ => ?_)
set_option maxHeartbeats 8000000 in
set_option maxRecDepth 100000 in
theorem spec_l11Is.calls (k : Nat) (a0_0 : Int) (a0_1 : Int) (a0_2 : Int) (A0_3 : Option Addr) (c0_3 : Nat) (l0_3 : List (List Int)) (r : Bool) (w : World) (hr0_3 : Kd.C (Kd.slice 2 (Kd.int .i64)) w A0_3 l0_3.length l0_3) (hc0_3 : l0_3.length ≤ c0_3) (h : spec_l11Is.f k a0_0 a0_1 a0_2 l0_3 = some r) :
  Calls Try.prog 33 #[.agg #[.int .i64 a0_0, .int .i64 a0_1, .int .i64 a0_2, .slice A0_3 l0_3.length c0_3]] w fun e w' => e = .returned (.bool r) ∧ Below w.heap.size w w' := by
 have hu38 := Try.underlying38
 have HR0_3 := Aside0.mk hr0_3
 have HC0_3 := Aside0.mk hc0_3
 clear hr0_3 hc0_3
 have HB := Aside0.mk (Below.refl w.heap.size w)
 have H : ((spec_l11States.f a0_0 a0_1 a0_2 l0_3).bind fun t210 => ((spec_l01In.f a0_0 0 8).bind fun t211 => (if t211 = true then ((spec_l01In.f t210 1 16).bind fun t212 => (if t212 = true then ((spec_l01In.f a0_1 0 (wrap64 (t210 - 1))).bind fun t213 => (if t213 = true then ((spec_l01Full.f t210).bind fun t214 => ((spec_l01In.f a0_2 0 t214).bind fun t215 => (spec_l11Is.j0 k t210 (!t215) a0_0 a0_1 a0_2 l0_3))) else (spec_l11Is.j0 k t210 true a0_0 a0_1 a0_2 l0_3))) else (spec_l11Is.j0 k t210 true a0_0 a0_1 a0_2 l0_3))) else (spec_l11Is.j0 k t210 true a0_0 a0_1 a0_2 l0_3)))) = some r := h
 clear h
 replace H := Option.bind_eq_some_iff.mp H
 obtain ⟨t210, A20, H⟩ := H
 replace H : ((spec_l01In.f a0_0 0 8).bind fun t211 => (if t211 = true then ((spec_l01In.f t210 1 16).bind fun t212 => (if t212 = true then ((spec_l01In.f a0_1 0 (wrap64 (t210 - 1))).bind fun t213 => (if t213 = true then ((spec_l01Full.f t210).bind fun t214 => ((spec_l01In.f a0_2 0 t214).bind fun t215 => (spec_l11Is.j0 k t210 (!t215) a0_0 a0_1 a0_2 l0_3))) else (spec_l11Is.j0 k t210 true a0_0 a0_1 a0_2 l0_3))) else (spec_l11Is.j0 k t210 true a0_0 a0_1 a0_2 l0_3))) else (spec_l11Is.j0 k t210 true a0_0 a0_1 a0_2 l0_3))) = some r := H
 have A2 := Aside0.mk A20
 clear A20
 have HC3 := Aside0.mk H
 clear H
 go_enter Try.func33, Try.ntmps33
 go_upto_region 2 with (first | ((with_reducible refine gate_dst (N := 1) rfl ?_); refine boxS (N := 1) (cs := #[.int .i64 a0_0, .int .i64 a0_1, .int .i64 a0_2, .slice A0_3 l0_3.length c0_3]) (t := 38) ?_; intro gb209 hg w4 hbox hb; have n0_ := Aside0.mk (below_step (bW) hb); have n1_ := Aside0.mk (hbox); have n2_ := geW (w := w) hg; have n3_ := geW (w := w) hg; clear HB; have HB := n0_; have BK209 := n1_; have GW209 := n2_; have GE209 := n3_; clear n0_ n1_ n2_ n3_; clear hb hbox hg; obtain ⟨hcz5_0, hcz5_1, hcz5_2, hcz5_3⟩ := cells4 BK209.out; obtain ⟨hfz5_0, hfz5_1, hfz5_2, hfz5_3⟩ := frz4 BK209.out) | (go_at_call 51; (with_reducible refine (spec_l11States.calls a0_0 a0_1 a0_2 _ _ l0_3 t210 _ ?side1 ?side2 A2.out).mono ?_); (case side1 => exact cP (Kd.C_below HR0_3.out HB.out)); (case side2 => exact HC0_3.out); rintro e w6 ⟨rfl, hb⟩; have n0_ := Aside0.mk (blkB BK209.out hb); have n1_ := Aside0.mk (below_step (bW) hb); clear BK209; clear HB; have BK209 := n0_; have HB := n1_; clear n0_ n1_; (try clear hb); (try clear hb2); (try clear hk); (try clear hi)))
 repeat (go_quiet (first | ((with_reducible refine gate_dst (N := 1) rfl ?_); refine boxS (N := 1) (cs := #[.int .i64 a0_0, .int .i64 a0_1, .int .i64 a0_2, .slice A0_3 l0_3.length c0_3]) (t := 38) ?_; intro gb209 hg w4 hbox hb; have n0_ := Aside0.mk (below_step (bW) hb); have n1_ := Aside0.mk (hbox); have n2_ := geW (w := w) hg; have n3_ := geW (w := w) hg; clear HB; have HB := n0_; have BK209 := n1_; have GW209 := n2_; have GE209 := n3_; clear n0_ n1_ n2_ n3_; clear hb hbox hg; obtain ⟨hcz5_0, hcz5_1, hcz5_2, hcz5_3⟩ := cells4 BK209.out; obtain ⟨hfz5_0, hfz5_1, hfz5_2, hfz5_3⟩ := frz4 BK209.out) | (go_at_call 51; (with_reducible refine (spec_l11States.calls a0_0 a0_1 a0_2 _ _ l0_3 t210 _ ?side1 ?side2 A2.out).mono ?_); (case side1 => exact cP (Kd.C_below HR0_3.out HB.out)); (case side2 => exact HC0_3.out); rintro e w6 ⟨rfl, hb⟩; have n0_ := Aside0.mk (blkB BK209.out hb); have n1_ := Aside0.mk (below_step (bW) hb); clear BK209; clear HB; have BK209 := n0_; have HB := n1_; clear n0_ n1_; (try clear hb); (try clear hb2); (try clear hk); (try clear hi))); go_upto_region 2 with (first | ((with_reducible refine gate_dst (N := 1) rfl ?_); refine boxS (N := 1) (cs := #[.int .i64 a0_0, .int .i64 a0_1, .int .i64 a0_2, .slice A0_3 l0_3.length c0_3]) (t := 38) ?_; intro gb209 hg w4 hbox hb; have n0_ := Aside0.mk (below_step (bW) hb); have n1_ := Aside0.mk (hbox); have n2_ := geW (w := w) hg; have n3_ := geW (w := w) hg; clear HB; have HB := n0_; have BK209 := n1_; have GW209 := n2_; have GE209 := n3_; clear n0_ n1_ n2_ n3_; clear hb hbox hg; obtain ⟨hcz5_0, hcz5_1, hcz5_2, hcz5_3⟩ := cells4 BK209.out; obtain ⟨hfz5_0, hfz5_1, hfz5_2, hfz5_3⟩ := frz4 BK209.out) | (go_at_call 51; (with_reducible refine (spec_l11States.calls a0_0 a0_1 a0_2 _ _ l0_3 t210 _ ?side1 ?side2 A2.out).mono ?_); (case side1 => exact cP (Kd.C_below HR0_3.out HB.out)); (case side2 => exact HC0_3.out); rintro e w6 ⟨rfl, hb⟩; have n0_ := Aside0.mk (blkB BK209.out hb); have n1_ := Aside0.mk (below_step (bW) hb); clear BK209; clear HB; have BK209 := n0_; have HB := n1_; clear n0_ n1_; (try clear hb); (try clear hb2); (try clear hk); (try clear hi))))
 (try simp only [Act.put, List.setIfInBounds_toArray, List.set_cons_zero, List.set_cons_succ])
 go_cut [32] (fun v32 wc => ∃ (kq : Nat) (x32_2 : Bool), v32 = .bool x32_2 ∧ Aside0 (spec_l11Is.j0 kq t210 x32_2 a0_0 a0_1 a0_2 l0_3 = some r) ∧ Aside0 (kq ≤ k) ∧ Aside0 (wc.heap[gb209]? = some (.cells #[.int .i64 a0_0, .int .i64 a0_1, .int .i64 a0_2, (.slice A0_3 l0_3.length c0_3)] 38 (0, 0))) ∧ Aside0 (Below w.heap.size w wc))
 case first =>
  have H := HC3.out
  clear HC3
  replace H := Option.bind_eq_some_iff.mp H
  obtain ⟨t211, A70, H⟩ := H
  replace H : (if t211 = true then ((spec_l01In.f t210 1 16).bind fun t212 => (if t212 = true then ((spec_l01In.f a0_1 0 (wrap64 (t210 - 1))).bind fun t213 => (if t213 = true then ((spec_l01Full.f t210).bind fun t214 => ((spec_l01In.f a0_2 0 t214).bind fun t215 => (spec_l11Is.j0 k t210 (!t215) a0_0 a0_1 a0_2 l0_3))) else (spec_l11Is.j0 k t210 true a0_0 a0_1 a0_2 l0_3))) else (spec_l11Is.j0 k t210 true a0_0 a0_1 a0_2 l0_3))) else (spec_l11Is.j0 k t210 true a0_0 a0_1 a0_2 l0_3)) = some r := H
  have A7 := Aside0.mk A70
  clear A70
  by_cases c8 : t211 = true
  ·subst c8
   have H1 : ((spec_l01In.f t210 1 16).bind fun t212 => (if t212 = true then ((spec_l01In.f a0_1 0 (wrap64 (t210 - 1))).bind fun t213 => (if t213 = true then ((spec_l01Full.f t210).bind fun t214 => ((spec_l01In.f a0_2 0 t214).bind fun t215 => (spec_l11Is.j0 k t210 (!t215) a0_0 a0_1 a0_2 l0_3))) else (spec_l11Is.j0 k t210 true a0_0 a0_1 a0_2 l0_3))) else (spec_l11Is.j0 k t210 true a0_0 a0_1 a0_2 l0_3))) = some r := by rw [if_pos rfl] at H; exact H
   clear H
   have H := H1
   clear H1
   replace H := Option.bind_eq_some_iff.mp H
   obtain ⟨t212, A90, H⟩ := H
   replace H : (if t212 = true then ((spec_l01In.f a0_1 0 (wrap64 (t210 - 1))).bind fun t213 => (if t213 = true then ((spec_l01Full.f t210).bind fun t214 => ((spec_l01In.f a0_2 0 t214).bind fun t215 => (spec_l11Is.j0 k t210 (!t215) a0_0 a0_1 a0_2 l0_3))) else (spec_l11Is.j0 k t210 true a0_0 a0_1 a0_2 l0_3))) else (spec_l11Is.j0 k t210 true a0_0 a0_1 a0_2 l0_3)) = some r := H
   have A9 := Aside0.mk A90
   clear A90
   by_cases c10 : t212 = true
   ·subst c10
    have H1 : ((spec_l01In.f a0_1 0 (wrap64 (t210 - 1))).bind fun t213 => (if t213 = true then ((spec_l01Full.f t210).bind fun t214 => ((spec_l01In.f a0_2 0 t214).bind fun t215 => (spec_l11Is.j0 k t210 (!t215) a0_0 a0_1 a0_2 l0_3))) else (spec_l11Is.j0 k t210 true a0_0 a0_1 a0_2 l0_3))) = some r := by rw [if_pos rfl] at H; exact H
    clear H
    have H := H1
    clear H1
    replace H := Option.bind_eq_some_iff.mp H
    obtain ⟨t213, A110, H⟩ := H
    replace H : (if t213 = true then ((spec_l01Full.f t210).bind fun t214 => ((spec_l01In.f a0_2 0 t214).bind fun t215 => (spec_l11Is.j0 k t210 (!t215) a0_0 a0_1 a0_2 l0_3))) else (spec_l11Is.j0 k t210 true a0_0 a0_1 a0_2 l0_3)) = some r := H
    have A11 := Aside0.mk A110
    clear A110
    by_cases c12 : t213 = true
    ·subst c12
     have H1 : ((spec_l01Full.f t210).bind fun t214 => ((spec_l01In.f a0_2 0 t214).bind fun t215 => (spec_l11Is.j0 k t210 (!t215) a0_0 a0_1 a0_2 l0_3))) = some r := by rw [if_pos rfl] at H; exact H
     clear H
     have H := H1
     clear H1
     replace H := Option.bind_eq_some_iff.mp H
     obtain ⟨t214, A130, H⟩ := H
     replace H : ((spec_l01In.f a0_2 0 t214).bind fun t215 => (spec_l11Is.j0 k t210 (!t215) a0_0 a0_1 a0_2 l0_3)) = some r := H
     have A13 := Aside0.mk A130
     clear A130
     replace H := Option.bind_eq_some_iff.mp H
     obtain ⟨t215, A140, H⟩ := H
     replace H : (spec_l11Is.j0 k t210 (!t215) a0_0 a0_1 a0_2 l0_3) = some r := H
     have A14 := Aside0.mk A140
     clear A140
     have H' := Aside0.mk H
     clear H
     have hcz15_0 : w6.cell? ⟨gb209, 0, none⟩ = some (.int .i64 a0_0) := (blk_cell BK209.out 0).trans rfl
     have hcz15_1 : w6.cell? ⟨gb209, 1, none⟩ = some (.int .i64 a0_1) := (blk_cell BK209.out 1).trans rfl
     have hcz15_2 : w6.cell? ⟨gb209, 2, none⟩ = some (.int .i64 a0_2) := (blk_cell BK209.out 2).trans rfl
     have hcz15_3 : w6.cell? ⟨gb209, 3, none⟩ = some (.slice A0_3 l0_3.length c0_3) := (blk_cell BK209.out 3).trans rfl
     have hfz15_0 := blk_frozen BK209.out 0
     have hfz15_1 := blk_frozen BK209.out 1
     have hfz15_2 := blk_frozen BK209.out 2
     have hfz15_3 := blk_frozen BK209.out 3
     go_wp2_with (first | (go_at_call 58; (with_reducible refine (spec_l01In.calls a0_0 0 8 true _ A7.out).mono ?_); rintro e w' ⟨rfl, ⟨nd, rfl⟩⟩; (try first | exact ⟨rfl, _, World.drewN_drewN _ _ _⟩ | exact ⟨rfl, _, Eq.trans (World.drewN_drewN _ _ _) (congrArg (World.drewN _) (Nat.add_assoc _ _ _))⟩)) | (go_at_call 58; (with_reducible refine (spec_l01In.calls t210 1 16 true _ A9.out).mono ?_); rintro e w' ⟨rfl, ⟨nd, rfl⟩⟩; (try first | exact ⟨rfl, _, World.drewN_drewN _ _ _⟩ | exact ⟨rfl, _, Eq.trans (World.drewN_drewN _ _ _) (congrArg (World.drewN _) (Nat.add_assoc _ _ _))⟩)) | (go_at_call 58; (with_reducible refine (spec_l01In.calls a0_1 0 (wrap64 (t210 - 1)) true _ A11.out).mono ?_); rintro e w' ⟨rfl, ⟨nd, rfl⟩⟩; (try first | exact ⟨rfl, _, World.drewN_drewN _ _ _⟩ | exact ⟨rfl, _, Eq.trans (World.drewN_drewN _ _ _) (congrArg (World.drewN _) (Nat.add_assoc _ _ _))⟩)) | (go_at_call 59; (with_reducible refine (spec_l01Full.calls t210 t214 _ A13.out).mono ?_); rintro e w' ⟨rfl, ⟨nd, rfl⟩⟩; (try first | exact ⟨rfl, _, World.drewN_drewN _ _ _⟩ | exact ⟨rfl, _, Eq.trans (World.drewN_drewN _ _ _) (congrArg (World.drewN _) (Nat.add_assoc _ _ _))⟩)) | (go_at_call 58; (with_reducible refine (spec_l01In.calls a0_2 0 t214 t215 _ A14.out).mono ?_); rintro e w' ⟨rfl, ⟨nd, rfl⟩⟩; (try first | exact ⟨rfl, _, World.drewN_drewN _ _ _⟩ | exact ⟨rfl, _, Eq.trans (World.drewN_drewN _ _ _) (congrArg (World.drewN _) (Nat.add_assoc _ _ _))⟩)))
     repeat (go_quiet (first | (go_at_call 58; (with_reducible refine (spec_l01In.calls a0_0 0 8 true _ A7.out).mono ?_); rintro e w' ⟨rfl, ⟨nd, rfl⟩⟩; (try first | exact ⟨rfl, _, World.drewN_drewN _ _ _⟩ | exact ⟨rfl, _, Eq.trans (World.drewN_drewN _ _ _) (congrArg (World.drewN _) (Nat.add_assoc _ _ _))⟩)) | (go_at_call 58; (with_reducible refine (spec_l01In.calls t210 1 16 true _ A9.out).mono ?_); rintro e w' ⟨rfl, ⟨nd, rfl⟩⟩; (try first | exact ⟨rfl, _, World.drewN_drewN _ _ _⟩ | exact ⟨rfl, _, Eq.trans (World.drewN_drewN _ _ _) (congrArg (World.drewN _) (Nat.add_assoc _ _ _))⟩)) | (go_at_call 58; (with_reducible refine (spec_l01In.calls a0_1 0 (wrap64 (t210 - 1)) true _ A11.out).mono ?_); rintro e w' ⟨rfl, ⟨nd, rfl⟩⟩; (try first | exact ⟨rfl, _, World.drewN_drewN _ _ _⟩ | exact ⟨rfl, _, Eq.trans (World.drewN_drewN _ _ _) (congrArg (World.drewN _) (Nat.add_assoc _ _ _))⟩)) | (go_at_call 59; (with_reducible refine (spec_l01Full.calls t210 t214 _ A13.out).mono ?_); rintro e w' ⟨rfl, ⟨nd, rfl⟩⟩; (try first | exact ⟨rfl, _, World.drewN_drewN _ _ _⟩ | exact ⟨rfl, _, Eq.trans (World.drewN_drewN _ _ _) (congrArg (World.drewN _) (Nat.add_assoc _ _ _))⟩)) | (go_at_call 58; (with_reducible refine (spec_l01In.calls a0_2 0 t214 t215 _ A14.out).mono ?_); rintro e w' ⟨rfl, ⟨nd, rfl⟩⟩; (try first | exact ⟨rfl, _, World.drewN_drewN _ _ _⟩ | exact ⟨rfl, _, Eq.trans (World.drewN_drewN _ _ _) (congrArg (World.drewN _) (Nat.add_assoc _ _ _))⟩))); try go_wp2_with (first | (go_at_call 58; (with_reducible refine (spec_l01In.calls a0_0 0 8 true _ A7.out).mono ?_); rintro e w' ⟨rfl, ⟨nd, rfl⟩⟩; (try first | exact ⟨rfl, _, World.drewN_drewN _ _ _⟩ | exact ⟨rfl, _, Eq.trans (World.drewN_drewN _ _ _) (congrArg (World.drewN _) (Nat.add_assoc _ _ _))⟩)) | (go_at_call 58; (with_reducible refine (spec_l01In.calls t210 1 16 true _ A9.out).mono ?_); rintro e w' ⟨rfl, ⟨nd, rfl⟩⟩; (try first | exact ⟨rfl, _, World.drewN_drewN _ _ _⟩ | exact ⟨rfl, _, Eq.trans (World.drewN_drewN _ _ _) (congrArg (World.drewN _) (Nat.add_assoc _ _ _))⟩)) | (go_at_call 58; (with_reducible refine (spec_l01In.calls a0_1 0 (wrap64 (t210 - 1)) true _ A11.out).mono ?_); rintro e w' ⟨rfl, ⟨nd, rfl⟩⟩; (try first | exact ⟨rfl, _, World.drewN_drewN _ _ _⟩ | exact ⟨rfl, _, Eq.trans (World.drewN_drewN _ _ _) (congrArg (World.drewN _) (Nat.add_assoc _ _ _))⟩)) | (go_at_call 59; (with_reducible refine (spec_l01Full.calls t210 t214 _ A13.out).mono ?_); rintro e w' ⟨rfl, ⟨nd, rfl⟩⟩; (try first | exact ⟨rfl, _, World.drewN_drewN _ _ _⟩ | exact ⟨rfl, _, Eq.trans (World.drewN_drewN _ _ _) (congrArg (World.drewN _) (Nat.add_assoc _ _ _))⟩)) | (go_at_call 58; (with_reducible refine (spec_l01In.calls a0_2 0 t214 t215 _ A14.out).mono ?_); rintro e w' ⟨rfl, ⟨nd, rfl⟩⟩; (try first | exact ⟨rfl, _, World.drewN_drewN _ _ _⟩ | exact ⟨rfl, _, Eq.trans (World.drewN_drewN _ _ _) (congrArg (World.drewN _) (Nat.add_assoc _ _ _))⟩))))
     go_meet
     case rel => exact ⟨_, (!t215), (eW), H', ⟨by first | omega | exact Nat.le_refl _⟩, ⟨(bP BK209.out)⟩, ⟨bW⟩⟩
    ·replace c12 := Bool.eq_false_iff.mpr c12
     subst c12
     have H1 : (spec_l11Is.j0 k t210 true a0_0 a0_1 a0_2 l0_3) = some r := by rw [if_neg (show ¬ (false = true) by decide)] at H; exact H
     clear H
     have H := H1
     clear H1
     have H' := Aside0.mk H
     clear H
     have hcz16_0 : w6.cell? ⟨gb209, 0, none⟩ = some (.int .i64 a0_0) := (blk_cell BK209.out 0).trans rfl
     have hcz16_1 : w6.cell? ⟨gb209, 1, none⟩ = some (.int .i64 a0_1) := (blk_cell BK209.out 1).trans rfl
     have hcz16_2 : w6.cell? ⟨gb209, 2, none⟩ = some (.int .i64 a0_2) := (blk_cell BK209.out 2).trans rfl
     have hcz16_3 : w6.cell? ⟨gb209, 3, none⟩ = some (.slice A0_3 l0_3.length c0_3) := (blk_cell BK209.out 3).trans rfl
     have hfz16_0 := blk_frozen BK209.out 0
     have hfz16_1 := blk_frozen BK209.out 1
     have hfz16_2 := blk_frozen BK209.out 2
     have hfz16_3 := blk_frozen BK209.out 3
     go_wp2_with (first | (go_at_call 58; (with_reducible refine (spec_l01In.calls a0_0 0 8 true _ A7.out).mono ?_); rintro e w' ⟨rfl, ⟨nd, rfl⟩⟩; (try first | exact ⟨rfl, _, World.drewN_drewN _ _ _⟩ | exact ⟨rfl, _, Eq.trans (World.drewN_drewN _ _ _) (congrArg (World.drewN _) (Nat.add_assoc _ _ _))⟩)) | (go_at_call 58; (with_reducible refine (spec_l01In.calls t210 1 16 true _ A9.out).mono ?_); rintro e w' ⟨rfl, ⟨nd, rfl⟩⟩; (try first | exact ⟨rfl, _, World.drewN_drewN _ _ _⟩ | exact ⟨rfl, _, Eq.trans (World.drewN_drewN _ _ _) (congrArg (World.drewN _) (Nat.add_assoc _ _ _))⟩)) | (go_at_call 58; (with_reducible refine (spec_l01In.calls a0_1 0 (wrap64 (t210 - 1)) false _ A11.out).mono ?_); rintro e w' ⟨rfl, ⟨nd, rfl⟩⟩; (try first | exact ⟨rfl, _, World.drewN_drewN _ _ _⟩ | exact ⟨rfl, _, Eq.trans (World.drewN_drewN _ _ _) (congrArg (World.drewN _) (Nat.add_assoc _ _ _))⟩)))
     repeat (go_quiet (first | (go_at_call 58; (with_reducible refine (spec_l01In.calls a0_0 0 8 true _ A7.out).mono ?_); rintro e w' ⟨rfl, ⟨nd, rfl⟩⟩; (try first | exact ⟨rfl, _, World.drewN_drewN _ _ _⟩ | exact ⟨rfl, _, Eq.trans (World.drewN_drewN _ _ _) (congrArg (World.drewN _) (Nat.add_assoc _ _ _))⟩)) | (go_at_call 58; (with_reducible refine (spec_l01In.calls t210 1 16 true _ A9.out).mono ?_); rintro e w' ⟨rfl, ⟨nd, rfl⟩⟩; (try first | exact ⟨rfl, _, World.drewN_drewN _ _ _⟩ | exact ⟨rfl, _, Eq.trans (World.drewN_drewN _ _ _) (congrArg (World.drewN _) (Nat.add_assoc _ _ _))⟩)) | (go_at_call 58; (with_reducible refine (spec_l01In.calls a0_1 0 (wrap64 (t210 - 1)) false _ A11.out).mono ?_); rintro e w' ⟨rfl, ⟨nd, rfl⟩⟩; (try first | exact ⟨rfl, _, World.drewN_drewN _ _ _⟩ | exact ⟨rfl, _, Eq.trans (World.drewN_drewN _ _ _) (congrArg (World.drewN _) (Nat.add_assoc _ _ _))⟩))); try go_wp2_with (first | (go_at_call 58; (with_reducible refine (spec_l01In.calls a0_0 0 8 true _ A7.out).mono ?_); rintro e w' ⟨rfl, ⟨nd, rfl⟩⟩; (try first | exact ⟨rfl, _, World.drewN_drewN _ _ _⟩ | exact ⟨rfl, _, Eq.trans (World.drewN_drewN _ _ _) (congrArg (World.drewN _) (Nat.add_assoc _ _ _))⟩)) | (go_at_call 58; (with_reducible refine (spec_l01In.calls t210 1 16 true _ A9.out).mono ?_); rintro e w' ⟨rfl, ⟨nd, rfl⟩⟩; (try first | exact ⟨rfl, _, World.drewN_drewN _ _ _⟩ | exact ⟨rfl, _, Eq.trans (World.drewN_drewN _ _ _) (congrArg (World.drewN _) (Nat.add_assoc _ _ _))⟩)) | (go_at_call 58; (with_reducible refine (spec_l01In.calls a0_1 0 (wrap64 (t210 - 1)) false _ A11.out).mono ?_); rintro e w' ⟨rfl, ⟨nd, rfl⟩⟩; (try first | exact ⟨rfl, _, World.drewN_drewN _ _ _⟩ | exact ⟨rfl, _, Eq.trans (World.drewN_drewN _ _ _) (congrArg (World.drewN _) (Nat.add_assoc _ _ _))⟩))))
     go_meet
     case rel => exact ⟨_, (true), (eW), H', ⟨by first | omega | exact Nat.le_refl _⟩, ⟨(bP BK209.out)⟩, ⟨bW⟩⟩
   ·replace c10 := Bool.eq_false_iff.mpr c10
    subst c10
    have H1 : (spec_l11Is.j0 k t210 true a0_0 a0_1 a0_2 l0_3) = some r := by rw [if_neg (show ¬ (false = true) by decide)] at H; exact H
    clear H
    have H := H1
    clear H1
    have H' := Aside0.mk H
    clear H
    have hcz17_0 : w6.cell? ⟨gb209, 0, none⟩ = some (.int .i64 a0_0) := (blk_cell BK209.out 0).trans rfl
    have hcz17_1 : w6.cell? ⟨gb209, 1, none⟩ = some (.int .i64 a0_1) := (blk_cell BK209.out 1).trans rfl
    have hcz17_2 : w6.cell? ⟨gb209, 2, none⟩ = some (.int .i64 a0_2) := (blk_cell BK209.out 2).trans rfl
    have hcz17_3 : w6.cell? ⟨gb209, 3, none⟩ = some (.slice A0_3 l0_3.length c0_3) := (blk_cell BK209.out 3).trans rfl
    have hfz17_0 := blk_frozen BK209.out 0
    have hfz17_1 := blk_frozen BK209.out 1
    have hfz17_2 := blk_frozen BK209.out 2
    have hfz17_3 := blk_frozen BK209.out 3
    go_wp2_with (first | (go_at_call 58; (with_reducible refine (spec_l01In.calls a0_0 0 8 true _ A7.out).mono ?_); rintro e w' ⟨rfl, ⟨nd, rfl⟩⟩; (try first | exact ⟨rfl, _, World.drewN_drewN _ _ _⟩ | exact ⟨rfl, _, Eq.trans (World.drewN_drewN _ _ _) (congrArg (World.drewN _) (Nat.add_assoc _ _ _))⟩)) | (go_at_call 58; (with_reducible refine (spec_l01In.calls t210 1 16 false _ A9.out).mono ?_); rintro e w' ⟨rfl, ⟨nd, rfl⟩⟩; (try first | exact ⟨rfl, _, World.drewN_drewN _ _ _⟩ | exact ⟨rfl, _, Eq.trans (World.drewN_drewN _ _ _) (congrArg (World.drewN _) (Nat.add_assoc _ _ _))⟩)))
    repeat (go_quiet (first | (go_at_call 58; (with_reducible refine (spec_l01In.calls a0_0 0 8 true _ A7.out).mono ?_); rintro e w' ⟨rfl, ⟨nd, rfl⟩⟩; (try first | exact ⟨rfl, _, World.drewN_drewN _ _ _⟩ | exact ⟨rfl, _, Eq.trans (World.drewN_drewN _ _ _) (congrArg (World.drewN _) (Nat.add_assoc _ _ _))⟩)) | (go_at_call 58; (with_reducible refine (spec_l01In.calls t210 1 16 false _ A9.out).mono ?_); rintro e w' ⟨rfl, ⟨nd, rfl⟩⟩; (try first | exact ⟨rfl, _, World.drewN_drewN _ _ _⟩ | exact ⟨rfl, _, Eq.trans (World.drewN_drewN _ _ _) (congrArg (World.drewN _) (Nat.add_assoc _ _ _))⟩))); try go_wp2_with (first | (go_at_call 58; (with_reducible refine (spec_l01In.calls a0_0 0 8 true _ A7.out).mono ?_); rintro e w' ⟨rfl, ⟨nd, rfl⟩⟩; (try first | exact ⟨rfl, _, World.drewN_drewN _ _ _⟩ | exact ⟨rfl, _, Eq.trans (World.drewN_drewN _ _ _) (congrArg (World.drewN _) (Nat.add_assoc _ _ _))⟩)) | (go_at_call 58; (with_reducible refine (spec_l01In.calls t210 1 16 false _ A9.out).mono ?_); rintro e w' ⟨rfl, ⟨nd, rfl⟩⟩; (try first | exact ⟨rfl, _, World.drewN_drewN _ _ _⟩ | exact ⟨rfl, _, Eq.trans (World.drewN_drewN _ _ _) (congrArg (World.drewN _) (Nat.add_assoc _ _ _))⟩))))
    go_meet
    case rel => exact ⟨_, (true), (eW), H', ⟨by first | omega | exact Nat.le_refl _⟩, ⟨(bP BK209.out)⟩, ⟨bW⟩⟩
  ·replace c8 := Bool.eq_false_iff.mpr c8
   subst c8
   have H1 : (spec_l11Is.j0 k t210 true a0_0 a0_1 a0_2 l0_3) = some r := by rw [if_neg (show ¬ (false = true) by decide)] at H; exact H
   clear H
   have H := H1
   clear H1
   have H' := Aside0.mk H
   clear H
   have hcz18_0 : w6.cell? ⟨gb209, 0, none⟩ = some (.int .i64 a0_0) := (blk_cell BK209.out 0).trans rfl
   have hcz18_1 : w6.cell? ⟨gb209, 1, none⟩ = some (.int .i64 a0_1) := (blk_cell BK209.out 1).trans rfl
   have hcz18_2 : w6.cell? ⟨gb209, 2, none⟩ = some (.int .i64 a0_2) := (blk_cell BK209.out 2).trans rfl
   have hcz18_3 : w6.cell? ⟨gb209, 3, none⟩ = some (.slice A0_3 l0_3.length c0_3) := (blk_cell BK209.out 3).trans rfl
   have hfz18_0 := blk_frozen BK209.out 0
   have hfz18_1 := blk_frozen BK209.out 1
   have hfz18_2 := blk_frozen BK209.out 2
   have hfz18_3 := blk_frozen BK209.out 3
   go_wp2_with (first | (go_at_call 58; (with_reducible refine (spec_l01In.calls a0_0 0 8 false _ A7.out).mono ?_); rintro e w' ⟨rfl, ⟨nd, rfl⟩⟩; (try first | exact ⟨rfl, _, World.drewN_drewN _ _ _⟩ | exact ⟨rfl, _, Eq.trans (World.drewN_drewN _ _ _) (congrArg (World.drewN _) (Nat.add_assoc _ _ _))⟩)))
   repeat (go_quiet (first | (go_at_call 58; (with_reducible refine (spec_l01In.calls a0_0 0 8 false _ A7.out).mono ?_); rintro e w' ⟨rfl, ⟨nd, rfl⟩⟩; (try first | exact ⟨rfl, _, World.drewN_drewN _ _ _⟩ | exact ⟨rfl, _, Eq.trans (World.drewN_drewN _ _ _) (congrArg (World.drewN _) (Nat.add_assoc _ _ _))⟩))); try go_wp2_with (first | (go_at_call 58; (with_reducible refine (spec_l01In.calls a0_0 0 8 false _ A7.out).mono ?_); rintro e w' ⟨rfl, ⟨nd, rfl⟩⟩; (try first | exact ⟨rfl, _, World.drewN_drewN _ _ _⟩ | exact ⟨rfl, _, Eq.trans (World.drewN_drewN _ _ _) (congrArg (World.drewN _) (Nat.add_assoc _ _ _))⟩))))
   go_meet
   case rel => exact ⟨_, (true), (eW), H', ⟨by first | omega | exact Nat.le_refl _⟩, ⟨(bP BK209.out)⟩, ⟨bW⟩⟩
 case rest =>
  clear HC3
  try clear c1
  try clear p2
  try clear c3
  try clear p6
  try clear c8
  try clear c10
  try clear c12
  try clear hcz15_0
  try clear hcz15_1
  try clear hcz15_2
  try clear hcz15_3
  try clear hcz16_0
  try clear hcz16_1
  try clear hcz16_2
  try clear hcz16_3
  try clear hcz17_0
  try clear hcz17_1
  try clear hcz17_2
  try clear hcz17_3
  try clear hcz18_0
  try clear hcz18_1
  try clear hcz18_2
  try clear hcz18_3
  try clear hcz5_0
  try clear hcz5_1
  try clear hcz5_2
  try clear hcz5_3
  try clear hfz15_0
  try clear hfz15_1
  try clear hfz15_2
  try clear hfz15_3
  try clear hfz16_0
  try clear hfz16_1
  try clear hfz16_2
  try clear hfz16_3
  try clear hfz17_0
  try clear hfz17_1
  try clear hfz17_2
  try clear hfz17_3
  try clear hfz18_0
  try clear hfz18_1
  try clear hfz18_2
  try clear hfz18_3
  try clear hfz5_0
  try clear hfz5_1
  try clear hfz5_2
  try clear hfz5_3
  obtain ⟨kq, x32_2, rfl, HA, HJ2, BK209, HB⟩ := hcut
  cases kq with
  | zero => exact absurd HA.out (by simp [spec_l11Is.j0])
  | succ kj2 =>
   have H := HA.out
   clear HA
   simp only [spec_l11Is.j0] at H
   by_cases c19 : x32_2 = true
   ·subst c19
    have H1 : (some false) = some r := by rw [if_pos rfl] at H; exact H
    clear H
    have H := H1
    clear H1
    obtain rfl := Option.some.inj H
    go_wp2
    repeat (go_quiet (fail); try go_wp2)
    go_ret
    exact ⟨eW, bW⟩
   ·replace c19 := Bool.eq_false_iff.mpr c19
    subst c19
    have H1 : (spec_l11Is.l0 kj2 t210 0 a0_0 a0_1 a0_2 l0_3) = some r := by rw [if_neg (show ¬ (false = true) by decide)] at H; exact H
    clear H
    have H := H1
    clear H1
    have H' := Aside0.mk H
    clear H
    go_wp2
    repeat (go_quiet (fail); try go_wp2)
    go_loopg [4] kj2 (fun kq v4 w' => ∃ (x4_2 : Int), v4 = .int .i64 x4_2 ∧ Aside0 (spec_l11Is.l0 kq t210 x4_2 a0_0 a0_1 a0_2 l0_3 = some r) ∧ Aside0 (kq ≤ kj2) ∧ Aside0 (w'.heap[gb209]? = some (.cells #[.int .i64 a0_0, .int .i64 a0_1, .int .i64 a0_2, (.slice A0_3 l0_3.length c0_3)] 38 (0, 0))) ∧ Aside0 (Below w.heap.size w w'))
    case atStart => exact ⟨(0), (eW), H', ⟨Nat.le_refl _⟩, ⟨(bP BK209.out)⟩, ⟨bW⟩⟩
    case round =>
     clear H'
     try clear c1
     try clear p2
     try clear c3
     try clear p6
     try clear c8
     try clear c10
     try clear c12
     try clear c19
     try clear hcz15_0
     try clear hcz15_1
     try clear hcz15_2
     try clear hcz15_3
     try clear hcz16_0
     try clear hcz16_1
     try clear hcz16_2
     try clear hcz16_3
     try clear hcz17_0
     try clear hcz17_1
     try clear hcz17_2
     try clear hcz17_3
     try clear hcz18_0
     try clear hcz18_1
     try clear hcz18_2
     try clear hcz18_3
     try clear hcz5_0
     try clear hcz5_1
     try clear hcz5_2
     try clear hcz5_3
     try clear hfz15_0
     try clear hfz15_1
     try clear hfz15_2
     try clear hfz15_3
     try clear hfz16_0
     try clear hfz16_1
     try clear hfz16_2
     try clear hfz16_3
     try clear hfz17_0
     try clear hfz17_1
     try clear hfz17_2
     try clear hfz17_3
     try clear hfz18_0
     try clear hfz18_1
     try clear hfz18_2
     try clear hfz18_3
     try clear hfz5_0
     try clear hfz5_1
     try clear hfz5_2
     try clear hfz5_3
     try clear p2
     try clear p6
     obtain ⟨x4_2, rfl, HA, HK2, BK209, HB⟩ := hrel
     cases gk with
     | zero => exact absurd HA.out (by simp [spec_l11Is.l0])
     | succ k2 =>
      have H := HA.out
      clear HA
      simp only [spec_l11Is.l0] at H
      by_cases c20 : x4_2 < t210
      ·rw [if_pos c20] at H
       have c20b0 : decide (x4_2 < t210) = true := decide_eq_true c20
       clear c20
       by_cases c21 : 0 ≤ x4_2
       ·rw [if_pos c21] at H
        have c21b0 : decide (0 ≤ x4_2) = true := decide_eq_true c21
        clear c21
        by_cases c22 : x4_2 < (l0_3.length : Int)
        ·rw [if_pos c22] at H
         have c22b0 : decide (x4_2 < (l0_3.length : Int)) = true := decide_eq_true c22
         clear c22
         by_cases c23 : ((rd_L1 l0_3 x4_2).length : Int) = a0_0
         ·rw [if_pos c23] at H
          have c23b0 : (((rd_L1 l0_3 x4_2).length : Int) == a0_0) = true := beq_iff_eq.mpr c23
          have c23b1 : (((rd_L1 l0_3 x4_2).length : Int) != a0_0) = false := bne_eq_false_iff_eq.mpr c23
          clear c23
          have H' := Aside0.mk H
          clear H
          have hcz24_0 : wr.cell? ⟨gb209, 0, none⟩ = some (.int .i64 a0_0) := (blk_cell BK209.out 0).trans rfl
          have hcz24_1 : wr.cell? ⟨gb209, 1, none⟩ = some (.int .i64 a0_1) := (blk_cell BK209.out 1).trans rfl
          have hcz24_2 : wr.cell? ⟨gb209, 2, none⟩ = some (.int .i64 a0_2) := (blk_cell BK209.out 2).trans rfl
          have hcz24_3 : wr.cell? ⟨gb209, 3, none⟩ = some (.slice A0_3 l0_3.length c0_3) := (blk_cell BK209.out 3).trans rfl
          have hfz24_0 := blk_frozen BK209.out 0
          have hfz24_1 := blk_frozen BK209.out 1
          have hfz24_2 := blk_frozen BK209.out 2
          have hfz24_3 := blk_frozen BK209.out 3
          have p216 : 0 ≤ (x4_2 : Int) := ofD
          have q216 : x4_2 < (l0_3.length : Int) := ofD
          obtain ⟨ad216, A216_0, c216_0, e216, hx216_0, hl216_0, hi216_0⟩ := at_L1 HR0_3.out x4_2 p216 q216
          cases e216
          replace hx216_0 := (HB.out.cell (World.block_lt_of_cell? w _ hx216_0)).trans hx216_0
          have HR216_0 := Aside0.mk hi216_0
          have HC216_0 := Aside0.mk hl216_0
          clear hi216_0 hl216_0
          replace p216 := eq_true p216
          replace q216 := eq_true q216
          go_wp2
          repeat (go_quiet (fail); try go_wp2)
          go_loopg [5] k2 (fun kq v5 w' => ∃ (x5_3 : Int), v5 = .int .i64 x5_3 ∧ Aside0 (spec_l11Is.l1 kq t210 x4_2 x5_3 a0_0 a0_1 a0_2 l0_3 = some r) ∧ Aside0 (kq ≤ k2) ∧ Aside0 (w'.heap[gb209]? = some (.cells #[.int .i64 a0_0, .int .i64 a0_1, .int .i64 a0_2, (.slice (some ad216) l0_3.length c0_3)] 38 (0, 0))) ∧ Aside0 (Below w.heap.size w w'))
          case atStart => exact ⟨(0), (eW), H', ⟨Nat.le_refl _⟩, ⟨(bP BK209.out)⟩, ⟨bW⟩⟩
          case round =>
           clear H'
           try clear c1
           try clear c2
           try clear p2
           try clear q2
           try clear hx2
           try clear c3
           try clear p6
           try clear c8
           try clear c10
           try clear c12
           try clear c19
           try clear c20
           try clear c20b0
           try clear c21
           try clear c21b0
           try clear p21
           try clear q21
           try clear hx21
           try clear c22
           try clear c22b0
           try clear c23
           try clear c23b0
           try clear c23b1
           try clear hcz15_0
           try clear hcz15_1
           try clear hcz15_2
           try clear hcz15_3
           try clear hcz16_0
           try clear hcz16_1
           try clear hcz16_2
           try clear hcz16_3
           try clear hcz17_0
           try clear hcz17_1
           try clear hcz17_2
           try clear hcz17_3
           try clear hcz18_0
           try clear hcz18_1
           try clear hcz18_2
           try clear hcz18_3
           try clear hcz24_0
           try clear hcz24_1
           try clear hcz24_2
           try clear hcz24_3
           try clear hcz5_0
           try clear hcz5_1
           try clear hcz5_2
           try clear hcz5_3
           try clear hfz15_0
           try clear hfz15_1
           try clear hfz15_2
           try clear hfz15_3
           try clear hfz16_0
           try clear hfz16_1
           try clear hfz16_2
           try clear hfz16_3
           try clear hfz17_0
           try clear hfz17_1
           try clear hfz17_2
           try clear hfz17_3
           try clear hfz18_0
           try clear hfz18_1
           try clear hfz18_2
           try clear hfz18_3
           try clear hfz24_0
           try clear hfz24_1
           try clear hfz24_2
           try clear hfz24_3
           try clear hfz5_0
           try clear hfz5_1
           try clear hfz5_2
           try clear hfz5_3
           try clear hx216_0
           try clear p2
           try clear p216
           try clear p6
           try clear q216
           obtain ⟨x5_3, rfl, HA, HK3, BK209, HB⟩ := hrel
           cases gk with
           | zero => exact absurd HA.out (by simp [spec_l11Is.l1])
           | succ k3 =>
            have H := HA.out
            clear HA
            simp only [spec_l11Is.l1] at H
            by_cases c25 : x5_3 < a0_0
            ·rw [if_pos c25] at H
             have c25b0 : decide (x5_3 < a0_0) = true := decide_eq_true c25
             clear c25
             by_cases c26 : 0 ≤ x4_2
             ·rw [if_pos c26] at H
              have c26b0 : decide (0 ≤ x4_2) = true := decide_eq_true c26
              clear c26
              by_cases c27 : x4_2 < (l0_3.length : Int)
              ·rw [if_pos c27] at H
               have c27b0 : decide (x4_2 < (l0_3.length : Int)) = true := decide_eq_true c27
               clear c27
               by_cases c28 : 0 ≤ x5_3
               ·rw [if_pos c28] at H
                have c28b0 : decide (0 ≤ x5_3) = true := decide_eq_true c28
                clear c28
                by_cases c29 : x5_3 < ((rd_L1 l0_3 x4_2).length : Int)
                ·rw [if_pos c29] at H
                 have c29b0 : decide (x5_3 < ((rd_L1 l0_3 x4_2).length : Int)) = true := decide_eq_true c29
                 clear c29
                 replace H := Option.bind_eq_some_iff.mp H
                 obtain ⟨t219, A300, H⟩ := H
                 replace H : (if t219 = true then (spec_l11Is.l1 k3 t210 x4_2 (wrap64 (x5_3 + 1)) a0_0 a0_1 a0_2 l0_3) else (some false)) = some r := H
                 have A30 := Aside0.mk A300
                 clear A300
                 by_cases c31 : t219 = true
                 ·subst c31
                  have H1 : (spec_l11Is.l1 k3 t210 x4_2 (wrap64 (x5_3 + 1)) a0_0 a0_1 a0_2 l0_3) = some r := by rw [if_pos rfl] at H; exact H
                  clear H
                  have H := H1
                  clear H1
                  have H' := Aside0.mk H
                  clear H
                  have hcz32_0 : wr.cell? ⟨gb209, 0, none⟩ = some (.int .i64 a0_0) := (blk_cell BK209.out 0).trans rfl
                  have hcz32_1 : wr.cell? ⟨gb209, 1, none⟩ = some (.int .i64 a0_1) := (blk_cell BK209.out 1).trans rfl
                  have hcz32_2 : wr.cell? ⟨gb209, 2, none⟩ = some (.int .i64 a0_2) := (blk_cell BK209.out 2).trans rfl
                  have hcz32_3 : wr.cell? ⟨gb209, 3, none⟩ = some (.slice (some ad216) l0_3.length c0_3) := (blk_cell BK209.out 3).trans rfl
                  have hfz32_0 := blk_frozen BK209.out 0
                  have hfz32_1 := blk_frozen BK209.out 1
                  have hfz32_2 := blk_frozen BK209.out 2
                  have hfz32_3 := blk_frozen BK209.out 3
                  have p217 : 0 ≤ (x4_2 : Int) := ofD
                  have q217 : x4_2 < (l0_3.length : Int) := ofD
                  obtain ⟨ad217, A217_0, c217_0, e217, hx217_0, hl217_0, hi217_0⟩ := at_L1 HR0_3.out x4_2 p217 q217
                  obtain rfl : ad216 = ad217 := (by injection e217)
                  replace hx217_0 := (HB.out.cell (World.block_lt_of_cell? w _ hx217_0)).trans hx217_0
                  have HR217_0 := Aside0.mk hi217_0
                  have HC217_0 := Aside0.mk hl217_0
                  clear hi217_0 hl217_0
                  replace p217 := eq_true p217
                  replace q217 := eq_true q217
                  have p218 : 0 ≤ (x5_3 : Int) := ofD
                  have q218 : x5_3 < ((rd_L1 l0_3 x4_2).length : Int) := ofD
                  obtain ⟨ad218, e218, hx218_0⟩ := Kd.at_int HR217_0.out x5_3 p218 q218
                  cases e218
                  replace hx218_0 := (HB.out.cell (World.block_lt_of_cell? w _ hx218_0)).trans hx218_0
                  replace p218 := eq_true p218
                  replace q218 := eq_true q218
                  go_wp2_with (first | (go_at_call 58; (with_reducible refine (spec_l01In.calls (rd (rd_L1 l0_3 x4_2) x5_3) (-1) (wrap64 (t210 - 1)) true _ A30.out).mono ?_); rintro e w' ⟨rfl, ⟨nd, rfl⟩⟩; (try first | exact ⟨rfl, _, World.drewN_drewN _ _ _⟩ | exact ⟨rfl, _, Eq.trans (World.drewN_drewN _ _ _) (congrArg (World.drewN _) (Nat.add_assoc _ _ _))⟩)))
                  repeat (go_quiet (first | (go_at_call 58; (with_reducible refine (spec_l01In.calls (rd (rd_L1 l0_3 x4_2) x5_3) (-1) (wrap64 (t210 - 1)) true _ A30.out).mono ?_); rintro e w' ⟨rfl, ⟨nd, rfl⟩⟩; (try first | exact ⟨rfl, _, World.drewN_drewN _ _ _⟩ | exact ⟨rfl, _, Eq.trans (World.drewN_drewN _ _ _) (congrArg (World.drewN _) (Nat.add_assoc _ _ _))⟩))); try go_wp2_with (first | (go_at_call 58; (with_reducible refine (spec_l01In.calls (rd (rd_L1 l0_3 x4_2) x5_3) (-1) (wrap64 (t210 - 1)) true _ A30.out).mono ?_); rintro e w' ⟨rfl, ⟨nd, rfl⟩⟩; (try first | exact ⟨rfl, _, World.drewN_drewN _ _ _⟩ | exact ⟨rfl, _, Eq.trans (World.drewN_drewN _ _ _) (congrArg (World.drewN _) (Nat.add_assoc _ _ _))⟩))))
                  go_roundg k3
                  case measure => have := HJ2.out; have := HK2.out; have := HK3.out; omega
                  case rel => exact ⟨(wrap64 (x5_3 + 1)), (eW), H', ⟨by have := HJ2.out; have := HK2.out; have := HK3.out; omega⟩, ⟨(bP BK209.out)⟩, ⟨bW⟩⟩
                 ·replace c31 := Bool.eq_false_iff.mpr c31
                  subst c31
                  have H1 : (some false) = some r := by rw [if_neg (show ¬ (false = true) by decide)] at H; exact H
                  clear H
                  have H := H1
                  clear H1
                  obtain rfl := Option.some.inj H
                  have hcz33_0 : wr.cell? ⟨gb209, 0, none⟩ = some (.int .i64 a0_0) := (blk_cell BK209.out 0).trans rfl
                  have hcz33_1 : wr.cell? ⟨gb209, 1, none⟩ = some (.int .i64 a0_1) := (blk_cell BK209.out 1).trans rfl
                  have hcz33_2 : wr.cell? ⟨gb209, 2, none⟩ = some (.int .i64 a0_2) := (blk_cell BK209.out 2).trans rfl
                  have hcz33_3 : wr.cell? ⟨gb209, 3, none⟩ = some (.slice (some ad216) l0_3.length c0_3) := (blk_cell BK209.out 3).trans rfl
                  have hfz33_0 := blk_frozen BK209.out 0
                  have hfz33_1 := blk_frozen BK209.out 1
                  have hfz33_2 := blk_frozen BK209.out 2
                  have hfz33_3 := blk_frozen BK209.out 3
                  have p217 : 0 ≤ (x4_2 : Int) := ofD
                  have q217 : x4_2 < (l0_3.length : Int) := ofD
                  obtain ⟨ad217, A217_0, c217_0, e217, hx217_0, hl217_0, hi217_0⟩ := at_L1 HR0_3.out x4_2 p217 q217
                  obtain rfl : ad216 = ad217 := (by injection e217)
                  replace hx217_0 := (HB.out.cell (World.block_lt_of_cell? w _ hx217_0)).trans hx217_0
                  have HR217_0 := Aside0.mk hi217_0
                  have HC217_0 := Aside0.mk hl217_0
                  clear hi217_0 hl217_0
                  replace p217 := eq_true p217
                  replace q217 := eq_true q217
                  have p218 : 0 ≤ (x5_3 : Int) := ofD
                  have q218 : x5_3 < ((rd_L1 l0_3 x4_2).length : Int) := ofD
                  obtain ⟨ad218, e218, hx218_0⟩ := Kd.at_int HR217_0.out x5_3 p218 q218
                  cases e218
                  replace hx218_0 := (HB.out.cell (World.block_lt_of_cell? w _ hx218_0)).trans hx218_0
                  replace p218 := eq_true p218
                  replace q218 := eq_true q218
                  go_wp2_with (first | (go_at_call 58; (with_reducible refine (spec_l01In.calls (rd (rd_L1 l0_3 x4_2) x5_3) (-1) (wrap64 (t210 - 1)) false _ A30.out).mono ?_); rintro e w' ⟨rfl, ⟨nd, rfl⟩⟩; (try first | exact ⟨rfl, _, World.drewN_drewN _ _ _⟩ | exact ⟨rfl, _, Eq.trans (World.drewN_drewN _ _ _) (congrArg (World.drewN _) (Nat.add_assoc _ _ _))⟩)))
                  repeat (go_quiet (first | (go_at_call 58; (with_reducible refine (spec_l01In.calls (rd (rd_L1 l0_3 x4_2) x5_3) (-1) (wrap64 (t210 - 1)) false _ A30.out).mono ?_); rintro e w' ⟨rfl, ⟨nd, rfl⟩⟩; (try first | exact ⟨rfl, _, World.drewN_drewN _ _ _⟩ | exact ⟨rfl, _, Eq.trans (World.drewN_drewN _ _ _) (congrArg (World.drewN _) (Nat.add_assoc _ _ _))⟩))); try go_wp2_with (first | (go_at_call 58; (with_reducible refine (spec_l01In.calls (rd (rd_L1 l0_3 x4_2) x5_3) (-1) (wrap64 (t210 - 1)) false _ A30.out).mono ?_); rintro e w' ⟨rfl, ⟨nd, rfl⟩⟩; (try first | exact ⟨rfl, _, World.drewN_drewN _ _ _⟩ | exact ⟨rfl, _, Eq.trans (World.drewN_drewN _ _ _) (congrArg (World.drewN _) (Nat.add_assoc _ _ _))⟩))))
                  go_ret
                  exact ⟨eW, bW⟩
                ·rw [if_neg c29] at H
                 exact absurd H (by simp)
               ·rw [if_neg c28] at H
                exact absurd H (by simp)
              ·rw [if_neg c27] at H
               exact absurd H (by simp)
             ·rw [if_neg c26] at H
              exact absurd H (by simp)
            ·rw [if_neg c25] at H
             have c25b0 : decide (x5_3 < a0_0) = false := decide_eq_false c25
             clear c25
             have H' := Aside0.mk H
             clear H
             have hcz34_0 : wr.cell? ⟨gb209, 0, none⟩ = some (.int .i64 a0_0) := (blk_cell BK209.out 0).trans rfl
             have hcz34_1 : wr.cell? ⟨gb209, 1, none⟩ = some (.int .i64 a0_1) := (blk_cell BK209.out 1).trans rfl
             have hcz34_2 : wr.cell? ⟨gb209, 2, none⟩ = some (.int .i64 a0_2) := (blk_cell BK209.out 2).trans rfl
             have hcz34_3 : wr.cell? ⟨gb209, 3, none⟩ = some (.slice (some ad216) l0_3.length c0_3) := (blk_cell BK209.out 3).trans rfl
             have hfz34_0 := blk_frozen BK209.out 0
             have hfz34_1 := blk_frozen BK209.out 1
             have hfz34_2 := blk_frozen BK209.out 2
             have hfz34_3 := blk_frozen BK209.out 3
             go_wp2
             repeat (go_quiet (fail); try go_wp2)
             go_roundg k3
             case measure => have := HJ2.out; have := HK2.out; have := HK3.out; omega
             case rel => exact ⟨(wrap64 (x4_2 + 1)), (eW), H', ⟨by have := HJ2.out; have := HK2.out; have := HK3.out; omega⟩, ⟨(bP BK209.out)⟩, ⟨bW⟩⟩
         ·rw [if_neg c23] at H
          have c23b0 : (((rd_L1 l0_3 x4_2).length : Int) == a0_0) = false := beq_eq_false_iff_ne.mpr c23
          have c23b1 : (((rd_L1 l0_3 x4_2).length : Int) != a0_0) = true := bne_iff_ne.mpr c23
          obtain rfl := Option.some.inj H
          have hcz35_0 : wr.cell? ⟨gb209, 0, none⟩ = some (.int .i64 a0_0) := (blk_cell BK209.out 0).trans rfl
          have hcz35_1 : wr.cell? ⟨gb209, 1, none⟩ = some (.int .i64 a0_1) := (blk_cell BK209.out 1).trans rfl
          have hcz35_2 : wr.cell? ⟨gb209, 2, none⟩ = some (.int .i64 a0_2) := (blk_cell BK209.out 2).trans rfl
          have hcz35_3 : wr.cell? ⟨gb209, 3, none⟩ = some (.slice A0_3 l0_3.length c0_3) := (blk_cell BK209.out 3).trans rfl
          have hfz35_0 := blk_frozen BK209.out 0
          have hfz35_1 := blk_frozen BK209.out 1
          have hfz35_2 := blk_frozen BK209.out 2
          have hfz35_3 := blk_frozen BK209.out 3
          have p216 : 0 ≤ (x4_2 : Int) := ofD
          have q216 : x4_2 < (l0_3.length : Int) := ofD
          obtain ⟨ad216, A216_0, c216_0, e216, hx216_0, hl216_0, hi216_0⟩ := at_L1 HR0_3.out x4_2 p216 q216
          cases e216
          replace hx216_0 := (HB.out.cell (World.block_lt_of_cell? w _ hx216_0)).trans hx216_0
          have HR216_0 := Aside0.mk hi216_0
          have HC216_0 := Aside0.mk hl216_0
          clear hi216_0 hl216_0
          replace p216 := eq_true p216
          replace q216 := eq_true q216
          go_wp2
          repeat (go_quiet (fail); try go_wp2)
          go_ret
          exact ⟨eW, bW⟩
        ·rw [if_neg c22] at H
         exact absurd H (by simp)
       ·rw [if_neg c21] at H
        exact absurd H (by simp)
      ·rw [if_neg c20] at H
       have c20b0 : decide (x4_2 < t210) = false := decide_eq_false c20
       clear c20
       obtain rfl := Option.some.inj H
       go_wp2
       repeat (go_quiet (fail); try go_wp2)
       go_ret
       exact ⟨eW, bW⟩

/-! ### spec_IsAutomaton: function 17 -/
def spec_IsAutomaton.f (k : Nat) (a0_0 : Int) (a0_1 : Int) (a0_2 : Int) (l0_3 : List (List Int)) : Option (Bool) := (spec_l11Is.f k a0_0 a0_1 a0_2 l0_3).bind fun t221 => (some t221)
theorem spec_IsAutomaton.mono : ∀ a0 a1 a2 a3 k, LeO (spec_IsAutomaton.f k a0 a1 a2 a3) (spec_IsAutomaton.f (k + 1) a0 a1 a2 a3) := by
 intro a0 a1 a2 a3 k
 unfold spec_IsAutomaton.f
 repeat' first
   | (with_reducible exact spec_l11Is.mono _ _ _ _ _)
   | (with_reducible exact LeO.refl _)
   | (with_reducible exact LeO.none _)
   | (with_reducible refine LeO.ite ?_ ?_)
   | (with_reducible refine LeO.bind ?_ (fun _ => ?_))
   | exact spec_l11Is.mono _ _ _ _ _
   | exact LeO.none _
   | refine LeO.ite ?_ ?_
   | refine LeO.bind ?_ (fun _ => ?_)
set_option maxHeartbeats 8000000 in
set_option maxRecDepth 100000 in
theorem spec_IsAutomaton.calls (k : Nat) (a0_0 : Int) (a0_1 : Int) (a0_2 : Int) (A0_3 : Option Addr) (c0_3 : Nat) (l0_3 : List (List Int)) (r : Bool) (w : World) (hr0_3 : Kd.C (Kd.slice 2 (Kd.int .i64)) w A0_3 l0_3.length l0_3) (hc0_3 : l0_3.length ≤ c0_3) (h : spec_IsAutomaton.f k a0_0 a0_1 a0_2 l0_3 = some r) :
  Calls Try.prog 17 #[.agg #[.int .i64 a0_0, .int .i64 a0_1, .int .i64 a0_2, .slice A0_3 l0_3.length c0_3]] w fun e w' => e = .returned (.bool r) ∧ Below w.heap.size w w' := by
 have hu38 := Try.underlying38
 have HR0_3 := Aside0.mk hr0_3
 have HC0_3 := Aside0.mk hc0_3
 clear hr0_3 hc0_3
 have HB := Aside0.mk (Below.refl w.heap.size w)
 have H : ((spec_l11Is.f k a0_0 a0_1 a0_2 l0_3).bind fun t221 => (some t221)) = some r := h
 clear h
 replace H := Option.bind_eq_some_iff.mp H
 obtain ⟨t221, A20, H⟩ := H
 replace H : (some t221) = some r := H
 have A2 := Aside0.mk A20
 clear A20
 obtain rfl := Option.some.inj H
 go_enter Try.func17, Try.ntmps17
 go_wp2_with (first | ((with_reducible refine gate_dst (N := 1) rfl ?_); refine boxS (N := 1) (cs := #[.int .i64 a0_0, .int .i64 a0_1, .int .i64 a0_2, .slice A0_3 l0_3.length c0_3]) (t := 38) ?_; intro gb220 hg w3 hbox hb; have n0_ := Aside0.mk (below_step (bW) hb); have n1_ := Aside0.mk (hbox); have n2_ := geW (w := w) hg; have n3_ := geW (w := w) hg; clear HB; have HB := n0_; have BK220 := n1_; have GW220 := n2_; have GE220 := n3_; clear n0_ n1_ n2_ n3_; clear hb hbox hg; obtain ⟨hcz4_0, hcz4_1, hcz4_2, hcz4_3⟩ := cells4 BK220.out; obtain ⟨hfz4_0, hfz4_1, hfz4_2, hfz4_3⟩ := frz4 BK220.out) | ((with_reducible refine gate_callee (f := 33) rfl ?_); refine goesS (some 4) Try.func33 #[.agg #[.int .i64 a0_0, .int .i64 a0_1, .int .i64 a0_2, .slice A0_3 l0_3.length c0_3]] ?_; (with_reducible refine (spec_l11Is.calls k a0_0 a0_1 a0_2 _ _ l0_3 t221 _ ?side1 ?side2 A2.out).mono ?_); (case side1 => exact cP (Kd.C_below HR0_3.out HB.out)); (case side2 => exact HC0_3.out); rintro e w5 ⟨rfl, hb⟩; refine ⟨_, rfl, ?_⟩; have n0_ := Aside0.mk (blkB BK220.out hb); have n1_ := Aside0.mk (below_step (bW) hb); clear BK220; clear HB; have BK220 := n0_; have HB := n1_; clear n0_ n1_; (try clear hb); (try clear hb2); (try clear hk); (try clear hi)))
 go_ret
 exact ⟨eW, bW⟩

end Go.Proofs.Ytcibmpomidhgiaa.P
end M0
section M1
namespace Go.Proofs.Ytcibmpomidhgiaa.U
open Go.RowKit Go.Proofs.YtcibmpomidhgiaaW.PrintWords Go.Proofs.YtcibmpomidhgiaaW.PrintLast
set_option linter.unusedVariables false
/-! Small laws of numbers and lists for the plain part: what a printed loop comes to. -/
theorem w64 {n : Int} (h0 : -9223372036854775808 ≤ n) (h1 : n ≤ 9223372036854775807) : wrap64 n = n := by unfold wrap64; omega
theorem w64s {n : Nat} (h : n < 9223372036854775807) : wrap64 ((n : Int) + 1) = ((n + 1 : Nat) : Int) := by unfold wrap64; omega
theorem rd_lt {l : List Int} {i : Nat} (h : i < l.length) : rd l (i : Int) = l[i] := by
  show l.getD i 0 = _; rw [List.getD_eq_getElem?_getD, List.getElem?_eq_getElem h]; rfl
/-- One round more, the loop's own equation still to be unfolded. -/
theorem Ev.round {α : Type} {g : Nat → Option α} {r : α} (h : Ev (fun k => g (k + 1)) r) : Ev g r := by
  obtain ⟨K, h⟩ := h
  refine ⟨K + 1, fun n hn => ?_⟩
  obtain ⟨m, rfl⟩ : ∃ m, n = m + 1 := ⟨n - 1, by omega⟩
  exact h m (by omega)
theorem Ev.here {α β : Type} {g : Option α} {f : Nat → α → Option β} {a : α} {r : β} (h : g = some a) (k : Ev (fun n => f n a) r) : Ev (fun n => g.bind (f n)) r := by
  subst h; exact k
theorem Ev.yes {α : Type} {c : Prop} [Decidable c] {A B : Nat → Option α} {r : α} (h : c) (k : Ev A r) : Ev (fun n => if c then A n else B n) r := Ev.congr (fun _ => if_pos h) k
theorem Ev.no {α : Type} {c : Prop} [Decidable c] {A B : Nat → Option α} {r : α} (h : ¬ c) (k : Ev B r) : Ev (fun n => if c then A n else B n) r := Ev.congr (fun _ => if_neg h) k
/-- An upward loop over an index: what it comes to from i on, if what one round does is known. -/
theorem Ev.up {σ ρ : Type} (L : Nat → σ → Int → Option ρ) (n : Nat) (R : Nat → σ → ρ) (I : Nat → σ → Prop)
    (hend : ∀ s, I n s → Ev (fun k => L k s (n : Int)) (R n s))
    (hstep : ∀ i s, i < n → I i s → (∀ s', I (i + 1) s' → Ev (fun k => L k s' ((i + 1 : Nat) : Int)) (R (i + 1) s')) → Ev (fun k => L k s (i : Int)) (R i s)) :
    ∀ i s, i ≤ n → I i s → Ev (fun k => L k s (i : Int)) (R i s) := by
  intro i s hi hI
  obtain ⟨d, hd⟩ : ∃ d, n - i = d := ⟨_, rfl⟩
  induction d generalizing i s with
  | zero =>
    have : i = n := by omega
    subst this
    exact hend s hI
  | succ d ih => exact hstep i s (by omega) hI (fun s' h' => ih (i + 1) s' (by omega) h' (by omega))
/-- The rounds come to something that Q says. -/
def EvP {α : Type} (g : Nat → Option α) (Q : α → Prop) : Prop := ∃ r, Ev g r ∧ Q r
theorem EvP.mono {α : Type} {g : Nat → Option α} {Q Q' : α → Prop} (h : EvP g Q) (k : ∀ r, Q r → Q' r) : EvP g Q' := by
  obtain ⟨r, h, q⟩ := h; exact ⟨r, h, k r q⟩
theorem EvP.round {α : Type} {g : Nat → Option α} {Q : α → Prop} (h : EvP (fun k => g (k + 1)) Q) : EvP g Q := by
  obtain ⟨r, h, q⟩ := h; exact ⟨r, Ev.round h, q⟩
theorem EvP.yes {α : Type} {c : Prop} [Decidable c] {A B : Nat → Option α} {Q : α → Prop} (h : c) (k : EvP A Q) : EvP (fun n => if c then A n else B n) Q := by
  obtain ⟨r, k, q⟩ := k; exact ⟨r, Ev.yes h k, q⟩
theorem EvP.no {α : Type} {c : Prop} [Decidable c] {A B : Nat → Option α} {Q : α → Prop} (h : ¬ c) (k : EvP B Q) : EvP (fun n => if c then A n else B n) Q := by
  obtain ⟨r, k, q⟩ := k; exact ⟨r, Ev.no h k, q⟩
theorem EvP.here {α β : Type} {g : Option α} {f : Nat → α → Option β} {a : α} {Q : β → Prop} (h : g = some a) (k : EvP (fun n => f n a) Q) : EvP (fun n => g.bind (f n)) Q := by
  obtain ⟨r, k, q⟩ := k; exact ⟨r, Ev.here h k, q⟩
theorem EvP.bind {α β : Type} {g : Nat → Option α} {f : Nat → α → Option β} {a : α} {Q : β → Prop} (h : Ev g a) (k : EvP (fun n => f n a) Q) : EvP (fun n => (g n).bind (f n)) Q := by
  obtain ⟨r, k, q⟩ := k; exact ⟨r, Ev.bind h k, q⟩
theorem EvP.up {σ ρ : Type} (L : Nat → σ → Int → Option ρ) (Q : ρ → Prop) (n : Nat) (I : Nat → σ → Prop)
    (hend : ∀ s, I n s → EvP (fun k => L k s (n : Int)) Q)
    (hstep : ∀ i s, i < n → I i s → (∀ s', I (i + 1) s' → EvP (fun k => L k s' ((i + 1 : Nat) : Int)) Q) → EvP (fun k => L k s (i : Int)) Q) :
    ∀ i s, i ≤ n → I i s → EvP (fun k => L k s (i : Int)) Q := by
  intro i s hi hI
  obtain ⟨d, hd⟩ : ∃ d, n - i = d := ⟨_, rfl⟩
  induction d generalizing i s with
  | zero =>
    have : i = n := by omega
    subst this
    exact hend s hI
  | succ d ih => exact hstep i s (by omega) hI (fun s' h' => ih (i + 1) s' (by omega) h' (by omega))
end Go.Proofs.Ytcibmpomidhgiaa.U
end M1
section M2
namespace Go.Proofs.Ytcibmpomidhgiaa.U
open Go.RowKit Go.Proofs.Ytcibmpomidhgiaa.P Go.Proofs.YtcibmpomidhgiaaW.PrintWords Go.Proofs.YtcibmpomidhgiaaW.PrintLast
/-! What the law's own helpers come to: copies, equality, sizes. -/
theorem toS (x0 : List Int) (hn : x0.length ≤ 35184372088832) : Ev (fun k => laws_toInt64S.f k x0) x0 := by
  have key := Ev.up (fun k s i => laws_toInt64S.l0 k x0 s i) x0.length (fun _ _ => x0) (fun i s => s.length = x0.length ∧ ∀ j, j < i → s[j]? = x0[j]?)
    (fun s ⟨h1, h2⟩ => by
      refine Ev.round ?_
      simp only [laws_toInt64S.l0]
      refine Ev.no (by omega) ?_
      have : s = x0 := List.ext_getElem? fun j => by
        by_cases hj : j < x0.length
        · exact h2 j hj
        · rw [List.getElem?_eq_none (by omega), List.getElem?_eq_none (by omega)]
      rw [this]
      exact Ev.now _)
    (fun i s hi ⟨h1, h2⟩ ih => by
      refine Ev.round ?_
      simp only [laws_toInt64S.l0]
      refine Ev.yes (by omega) (Ev.yes (by omega) (Ev.yes (by omega) ?_))
      rw [w64s (by omega)]
      refine ih _ ⟨by simp [h1], fun j hj => ?_⟩
      rw [Int.toNat_natCast, rd_lt hi]
      by_cases e : j = i
      · subst e
        rw [List.getElem?_set_self (by omega), List.getElem?_eq_getElem hi]
      · rw [List.getElem?_set_ne (by omega)]
        exact h2 j (by omega))
  unfold laws_toInt64S.f
  refine Ev.yes (by omega) (Ev.yes (by omega) ?_)
  have := key 0 (List.replicate x0.length 0) (by omega) ⟨by simp, fun j hj => absurd hj (by omega)⟩
  simpa using this
theorem eqS (a b : List Int) (hn : a.length ≤ 9223372036854775806) : Ev (fun k => laws_eqInt64S.f k a b) (decide (a = b)) := by
  unfold laws_eqInt64S.f
  by_cases hl : a.length = b.length
  · refine Ev.yes (by omega) ?_
    have key := Ev.up (fun k (_ : Unit) i => laws_eqInt64S.l0 k a b i) a.length (fun _ _ => decide (a = b)) (fun i _ => ∀ j, j < i → a[j]? = b[j]?)
      (fun _ h2 => by
        refine Ev.round ?_
        simp only [laws_eqInt64S.l0]
        refine Ev.no (by omega) ?_
        have : a = b := List.ext_getElem? fun j => by
          by_cases hj : j < a.length
          · exact h2 j hj
          · rw [List.getElem?_eq_none (by omega), List.getElem?_eq_none (by omega)]
        rw [decide_eq_true this]
        exact Ev.now _)
      (fun i _ hi h2 ih => by
        refine Ev.round ?_
        simp only [laws_eqInt64S.l0]
        refine Ev.yes (by omega) (Ev.yes (by omega) (Ev.yes (by omega) ?_))
        rw [rd_lt hi, rd_lt (by omega : i < b.length), w64s (by omega)]
        by_cases e : a[i] = b[i]
        · refine Ev.yes e (ih () fun j hj => ?_)
          by_cases e' : j = i
          · subst e'
            rw [List.getElem?_eq_getElem hi, List.getElem?_eq_getElem (by omega), e]
          · exact h2 j (by omega)
        · refine Ev.no e ?_
          rw [decide_eq_false (fun h => e (by subst h; rfl))]
          exact Ev.now _)
    have := key 0 () (by omega) (fun j hj => absurd hj (by omega))
    simpa using this
  · refine Ev.no (by omega) ?_
    rw [decide_eq_false (fun h => hl (by rw [h]))]
    exact Ev.now _
end Go.Proofs.Ytcibmpomidhgiaa.U
end M2
section M3
namespace Go.Proofs.Ytcibmpomidhgiaa.U
open Go.RowKit Go.Proofs.Ytcibmpomidhgiaa.P Go.Proofs.YtcibmpomidhgiaaW.PrintWords Go.Proofs.YtcibmpomidhgiaaW.PrintLast
/-! The reference's test of an automaton. -/
theorem spIn (a lo hi : Int) : spec_l01In.f a lo hi = some (inRB a lo hi) := by
  unfold spec_l01In.f inRB
  by_cases h : lo ≤ a
  · rw [if_pos h, decide_eq_true h, Bool.true_and]
  · rw [if_neg h, decide_eq_false h, Bool.false_and]
theorem u64w {n : Int} (h0 : 0 ≤ n) (h1 : n < 18446744073709551616) : IntKind.u64.wrap n = n := by
  show n % 18446744073709551616 = n
  omega
theorem spOne {n : Int} (h0 : 0 ≤ n) (h1 : n < 18446744073709551616) : spec_l01One.f n = some (shl .i64 1 n) := by
  unfold spec_l01One.f
  rw [u64w h0 h1, if_pos h0]
end Go.Proofs.Ytcibmpomidhgiaa.U
end M3
section M4
namespace Go.Proofs.Ytcibmpomidhgiaa.U
open Go.RowKit Go.Proofs.Ytcibmpomidhgiaa.P Go.Proofs.YtcibmpomidhgiaaW.PrintWords Go.Proofs.YtcibmpomidhgiaaW.PrintLast
/-! Marking a list with numbers, and finding the numbers again. -/
/-- a, a+1, .., n numbers. -/
def upL (a n : Nat) : List Int := (List.range n).map fun i => ((a + i : Nat) : Int)
theorem upL_length (a n : Nat) : (upL a n).length = n := by simp [upL]
theorem upL_get (a n i : Nat) (h : i < (upL a n).length) : (upL a n)[i] = ((a + i : Nat) : Int) := by simp [upL]
theorem markS (l : List Int) (a : Nat) (ha : a + l.length ≤ 1152921504606846976) : Ev (fun k => laws_markInt64S.f k l (a : Int)) (((a + l.length : Nat) : Int), upL a l.length) := by
  have key := Ev.up (fun k (s : List Int × Int) i => laws_markInt64S.l0 k s.1 s.2 i) l.length (fun _ _ => (((a + l.length : Nat) : Int), upL a l.length))
    (fun i s => s.2 = ((a + i : Nat) : Int) ∧ s.1.length = l.length ∧ ∀ j, j < i → s.1[j]? = some ((a + j : Nat) : Int))
    (fun s ⟨h1, h2, h3⟩ => by
      refine Ev.round ?_
      simp only [laws_markInt64S.l0]
      refine Ev.no (by omega) ?_
      have : s.1 = upL a l.length := List.ext_getElem? fun j => by
        by_cases hj : j < l.length
        · rw [h3 j hj, List.getElem?_eq_getElem (by rw [upL_length]; exact hj), upL_get]
        · rw [List.getElem?_eq_none (by omega), List.getElem?_eq_none (by rw [upL_length]; omega)]
      rw [this, h1]
      exact Ev.now _)
    (fun i s hi ⟨h1, h2, h3⟩ ih => by
      refine Ev.round ?_
      simp only [laws_markInt64S.l0]
      refine Ev.yes (by omega) (Ev.yes (by omega) ?_)
      rw [h1, w64s (by omega), w64s (by omega)]
      refine ih (s.1.set (i : Int).toNat ((a + i : Nat) : Int), ((a + i + 1 : Nat) : Int)) ⟨rfl, by simp [h2], fun j hj => ?_⟩
      rw [Int.toNat_natCast]
      by_cases e : j = i
      · subst e
        exact List.getElem?_set_self (by omega)
      · rw [List.getElem?_set_ne (by omega)]
        exact h3 j (by omega))
  have := key 0 (l, (a : Int)) (by omega) ⟨by simp, rfl, fun j hj => absurd hj (by omega)⟩
  unfold laws_markInt64S.f
  simpa using this
theorem heldS (n a : Nat) (ha : a + n ≤ 1152921504606846976) : Ev (fun k => laws_heldInt64S.f k (upL a n) (a : Int)) (((a + n : Nat) : Int)) := by
  have hl := upL_length a n
  have key := Ev.up (fun k (s : Int) i => laws_heldInt64S.l0 k (upL a n) s i) n (fun _ _ => (((a + n : Nat) : Int))) (fun i s => s = ((a + i : Nat) : Int))
    (fun s h1 => by
      refine Ev.round ?_
      simp only [laws_heldInt64S.l0]
      refine Ev.no (by omega) ?_
      rw [h1]
      exact Ev.now _)
    (fun i s hi h1 ih => by
      refine Ev.round ?_
      simp only [laws_heldInt64S.l0]
      refine Ev.yes (by omega) (Ev.yes (by omega) ?_)
      rw [rd_lt (by omega), upL_get, h1]
      refine Ev.yes rfl ?_
      rw [w64s (by omega), w64s (by omega)]
      exact ih _ rfl)
  have := key 0 (a : Int) (by omega) (by simp)
  unfold laws_heldInt64S.f
  simpa using this
theorem eqS' {a b : List Int} (h : a = b) (hn : a.length ≤ 9223372036854775806) : Ev (fun k => laws_eqInt64S.f k a b) true := by
  have := eqS a b hn
  rw [decide_eq_true h] at this
  exact this
theorem eqAl (x : Int) (l : List Int) (hn : l.length ≤ 9223372036854775806) : Ev (fun k => laws_eqAlphabet.f k x l x l) true := by
  unfold laws_eqAlphabet.f
  exact Ev.yes rfl (Ev.bind (eqS' rfl hn) (Ev.yes rfl (Ev.now _)))
theorem markAl (x : Int) (l : List Int) (hn : l.length ≤ 1048576) : Ev (fun k => laws_markAlphabet.f k x l 1) (((1 + l.length : Nat) : Int), upL 1 l.length) := by
  unfold laws_markAlphabet.f
  exact Ev.bind (markS l 1 (by omega)) (Ev.now _)
theorem heldAl (x : Int) (n : Nat) (hn : n ≤ 1048576) : Ev (fun k => laws_heldAlphabet.f k x (upL 1 n) 1) (((1 + n : Nat) : Int)) := by
  unfold laws_heldAlphabet.f
  exact Ev.bind (heldS n 1 (by omega)) (Ev.no (by omega) (Ev.now _))
end Go.Proofs.Ytcibmpomidhgiaa.U
end M4
section M5
namespace Go.Proofs.Ytcibmpomidhgiaa.U
open Go.RowKit Go.Proofs.YtcibmpomidhgiaaW.PrintWords Go.Proofs.YtcibmpomidhgiaaW.PrintLast Go.Proofs.YtcibmpomidhgiaaW.PrintMore
/-! Sets as numbers. -/
theorem i64_id (n : Int) (h0 : 0 ≤ n) (h1 : n < 2 ^ 63) : IntKind.i64.wrap n = n := by rw [IntKind.wrap_i64]; omega
theorem bor {a b : Nat} (ha : a < 2 ^ 63) (hb : b < 2 ^ 63) : bits .or .i64 (a : Int) (b : Int) = ((a ||| b : Nat) : Int) := (bits_nat .i64 63 (by decide) i64_id a b ha hb).2
theorem band {a b : Nat} (ha : a < 2 ^ 63) (hb : b < 2 ^ 63) : bits .and .i64 (a : Int) (b : Int) = ((a &&& b : Nat) : Int) := (bits_nat .i64 63 (by decide) i64_id a b ha hb).1
theorem shl1 {i : Nat} (hi : i < 63) : shl .i64 1 (i : Int) = ((2 ^ i : Nat) : Int) := by
  unfold shl
  rw [Int.toNat_natCast]
  have : min i IntKind.i64.bits = i := Nat.min_eq_left (by show i ≤ 64; omega)
  rw [this, Int.one_mul]
  have h := Nat.pow_lt_pow_right (a := 2) (by decide) hi
  rw [show ((2 : Int) ^ i) = ((2 ^ i : Nat) : Int) from by simp]
  exact i64_id _ (Int.natCast_nonneg _) (by exact_mod_cast h)
/-- The members k < n with p k, joined to s. -/
def orN (p : Nat → Bool) : Nat → Nat → Nat
  | 0, s => s
  | n + 1, s => if p n then orN p n s ||| 2 ^ n else orN p n s
theorem orN_yes {p : Nat → Bool} {n s : Nat} (h : p n = true) : orN p (n + 1) s = orN p n s ||| 2 ^ n := if_pos h
theorem orN_no {p : Nat → Bool} {n s : Nat} (h : p n = false) : orN p (n + 1) s = orN p n s := if_neg (by rw [h]; simp)
theorem testBit_orN (p : Nat → Bool) (n s j : Nat) : (orN p n s).testBit j = (s.testBit j || (decide (j < n) && p j)) := by
  induction n with
  | zero => simp [orN]
  | succ n ih =>
    unfold orN
    by_cases h : p n
    · rw [if_pos h, Nat.testBit_or, ih, Nat.testBit_two_pow]
      by_cases e : n = j
      · subst e; simp [h]
      · have e2 : decide (j < n + 1) = decide (j < n) := by rw [decide_eq_decide]; omega
        rw [e2]; simp [e]
    · rw [if_neg h, ih]
      by_cases e : n = j
      · subst e; simp [h]
      · have e2 : decide (j < n + 1) = decide (j < n) := by rw [decide_eq_decide]; omega
        rw [e2]
theorem orN_start (p : Nat → Bool) (n i : Nat) (hi : i < n) (h : p i = true) : orN p n (2 ^ i) = orN p n 0 := by
  apply Nat.eq_of_testBit_eq
  intro j
  rw [testBit_orN, testBit_orN, Nat.testBit_two_pow, Nat.zero_testBit]
  by_cases e : i = j
  · subst e; simp [h, hi]
  · simp [e]
theorem orN_lt (p : Nat → Bool) (n s m : Nat) (hn : n ≤ m) (hs : s < 2 ^ m) : orN p n s < 2 ^ m := by
  induction n with
  | zero => exact hs
  | succ n ih =>
    unfold orN
    split
    · exact Nat.or_lt_two_pow (ih (by omega)) (Nat.pow_lt_pow_right (by decide) (by omega))
    · exact ih (by omega)
end Go.Proofs.Ytcibmpomidhgiaa.U
end M5
section M6
namespace Go.Proofs.Ytcibmpomidhgiaa.Pure
open Go.RowKit Go.Proofs.Ytcibmpomidhgiaa.P Go.Proofs.Ytcibmpomidhgiaa.U Go.Proofs.YtcibmpomidhgiaaW.PrintWords Go.Proofs.YtcibmpomidhgiaaW.PrintLast Go.Proofs.YtcibmpomidhgiaaW.PrintMore
set_option linter.unusedVariables false
def arePl (n : Int) (l : List Int) : Bool := inRB n 1 4 && (decide ((l.length : Int) ≤ 8) && l.all fun t => inRB t 1 (wrap64 (shl .i64 1 n - 1)))
theorem arePlaces_eq (n : Int) (l : List Int) : impl_arePlaces.f n l = some (arePl n l) := by
  unfold impl_arePlaces.f arePl
  rw [inRange_some]
  simp only [Option.bind_some]
  cases h : inRB n 1 4
  · rfl
  · unfold inRB at h
    simp only [Bool.and_eq_true, decide_eq_true_eq] at h
    simp only [if_true, Bool.true_and]
    by_cases h2 : (l.length : Int) ≤ 8
    · rw [if_pos h2, decide_eq_true h2]
      unfold impl_one.f
      rw [if_pos (by omega)]
      rfl
    · rw [if_neg h2, decide_eq_false h2]
      rfl
theorem l14Places_ev (n : Int) (l : List Int) (hl : l.length ≤ 9223372036854775806) : Ev (fun k => spec_l14Places.f k n l) (arePl n l) := by
  have hf : spec_l01Full.f n = some (wrap64 (shl .i64 1 (IntKind.u64.wrap n) - 1)) := by
    unfold spec_l01Full.f spec_l01One.f
    rw [if_pos (by show 0 ≤ n % 18446744073709551616; omega)]
    rfl
  have key := Ev.up (fun k (_ : Unit) i => spec_l14Places.l0 k n l i) l.length (fun i _ => ((l.drop i).all fun t => inRB t 1 (wrap64 (shl .i64 1 (IntKind.u64.wrap n) - 1))) && (inRB n 1 4 && decide ((l.length : Int) ≤ 8))) (fun _ _ => True)
    (fun _ _ => by
      refine Ev.round ?_
      simp only [spec_l14Places.l0]
      refine Ev.no (by omega) (Ev.here (spIn _ _ _) ?_)
      rw [List.drop_length, List.all_nil, Bool.true_and]
      cases inRB n 1 4
      · exact Ev.no (by simp) (Ev.now _)
      · exact Ev.yes rfl (Ev.now _))
    (fun i _ hi _ ih => by
      refine Ev.round ?_
      simp only [spec_l14Places.l0]
      refine Ev.yes (by omega) (Ev.yes (by omega) (Ev.here hf (Ev.here (spIn _ _ _) ?_)))
      rw [rd_lt hi, w64s (by omega), List.drop_eq_getElem_cons hi, List.all_cons]
      cases inRB l[i] 1 (wrap64 (shl .i64 1 (IntKind.u64.wrap n) - 1))
      · exact Ev.no (by simp) (Ev.now _)
      · refine Ev.yes rfl ?_
        rw [Bool.true_and]
        exact ih () trivial)
  have h0 := key 0 () (by omega) trivial
  unfold spec_l14Places.f
  have e : arePl n l = (((l.drop 0).all fun t => inRB t 1 (wrap64 (shl .i64 1 (IntKind.u64.wrap n) - 1))) && (inRB n 1 4 && decide ((l.length : Int) ≤ 8))) := by
    unfold arePl
    cases h : inRB n 1 4
    · simp
    · unfold inRB at h
      simp only [Bool.and_eq_true, decide_eq_true_eq] at h
      rw [u64w (by omega) (by omega), List.drop_zero, Bool.true_and, Bool.true_and, Bool.and_comm]
  rw [e]
  simpa using h0
/-- Do two letters have a process in common? -/
def meet (l : List Int) (i j : Nat) : Bool := decide (bits .and .i64 (rd l (i : Int)) (rd l (j : Int)) ≠ 0)
/-- The letters that letter i depends on. -/
def rowP (l : List Int) (i : Nat) : Int := ((orN (meet l i) l.length 0 : Nat) : Int)
theorem orStep {p : Nat → Bool} {m j s : Nat} (hm : m < 63) (hs : s < 2 ^ m) (hj : j < m) : bits .or .i64 ((orN p j s : Nat) : Int) ((2 ^ j : Nat) : Int) = ((orN p j s ||| 2 ^ j : Nat) : Int) := by
  have hp : (2 : Nat) ^ m ≤ 2 ^ 63 := Nat.pow_le_pow_right (by decide) (by omega)
  exact bor (Nat.lt_of_lt_of_le (orN_lt p j s m (by omega) hs) hp) (Nat.lt_of_lt_of_le (Nat.pow_lt_pow_right (by decide) hj) hp)
theorem l14Alphabet_ev (l : List Int) (hl : l.length ≤ 8) : Ev (fun k => spec_l14Alphabet.f k l) ((l.length : Int), (List.range l.length).map (rowP l)) := by
  have key := Ev.up (fun k (s : List Int) i => spec_l14Alphabet.l0 k l i (l.length : Int) s) l.length (fun _ _ => ((l.length : Int), (List.range l.length).map (rowP l))) (fun i s => s = (List.range i).map (rowP l))
    (fun s hs => by
      refine Ev.round ?_
      simp only [spec_l14Alphabet.l0]
      refine Ev.no (by omega) ?_
      rw [hs]
      exact Ev.now _)
    (fun i s hi hs ih => by
      refine Ev.round ?_
      simp only [spec_l14Alphabet.l0]
      refine Ev.yes (by omega) ?_
      have inner := Ev.up (fun k (acc : Int) j => spec_l14Alphabet.l1 k l (i : Int) acc j (l.length : Int) s) l.length (fun _ _ => ((l.length : Int), (List.range l.length).map (rowP l))) (fun j acc => acc = ((orN (meet l i) j 0 : Nat) : Int))
        (fun acc ha => by
          refine Ev.round ?_
          simp only [spec_l14Alphabet.l1]
          have hsl : s.length = i := by rw [hs]; simp
          refine Ev.no (by omega) (Ev.yes (by omega) ?_)
          rw [w64s (by omega)]
          refine ih _ ?_
          rw [hs, ha, List.range_succ, List.map_append]
          rfl)
        (fun j acc hj ha ihj => by
          refine Ev.round ?_
          simp only [spec_l14Alphabet.l1]
          refine Ev.yes (by omega) (Ev.yes (by omega) (Ev.yes (by omega) (Ev.yes (by omega) ?_)))
          rw [w64s (by omega)]
          by_cases hb : bits .and .i64 (rd l (i : Int)) (rd l (j : Int)) = 0
          · refine Ev.yes hb (ihj _ ?_)
            have hm : meet l i j = false := by unfold meet; simpa using hb
            rw [ha, orN_no hm]
          · refine Ev.no hb (Ev.here (spOne (by omega) (by omega)) (ihj _ ?_))
            have hm : meet l i j = true := by unfold meet; simpa using hb
            rw [ha, shl1 (by omega), orN_yes hm]
            exact orStep (m := 8) (by omega) (by decide) (by omega))
      have := inner 0 0 (by omega) rfl
      simpa using this)
  have := key 0 [] (by omega) rfl
  unfold spec_l14Alphabet.f
  simpa using this
theorem loose_ev (n : Nat) (hn : n ≤ 8) : Ev (fun k => impl_loose.f k (n : Int)) ((n : Int), (List.range n).map fun i => ((2 ^ i : Nat) : Int)) := by
  have key := Ev.up (fun k (s : List Int) i => impl_loose.l0 k (n : Int) i (n : Int) s) n (fun _ _ => ((n : Int), (List.range n).map fun i => ((2 ^ i : Nat) : Int))) (fun i s => s = (List.range i).map fun i => ((2 ^ i : Nat) : Int))
    (fun s hs => by
      refine Ev.round ?_
      simp only [impl_loose.l0]
      refine Ev.no (by omega) ?_
      rw [hs]
      exact Ev.now _)
    (fun i s hi hs ih => by
      refine Ev.round ?_
      simp only [impl_loose.l0]
      have hsl : s.length = i := by rw [hs]; simp
      refine Ev.yes (by omega) (Ev.here (show impl_one.f (i : Int) = some (((2 ^ i : Nat) : Int)) by unfold impl_one.f; rw [if_pos (by omega), shl1 (by omega)]) (Ev.yes (by omega) ?_))
      rw [w64s (by omega)]
      refine ih _ ?_
      rw [hs, List.range_succ, List.map_append]
      rfl)
  have := key 0 [] (by omega) rfl
  unfold impl_loose.f
  simpa using this
/-- The rows when the first i are done. -/
def rowsTo (l : List Int) (i : Nat) : List Int := (List.range l.length).map fun a => if a < i then rowP l a else ((2 ^ a : Nat) : Int)
theorem rowsTo_length (l : List Int) (i : Nat) : (rowsTo l i).length = l.length := by simp [rowsTo]
theorem rowsTo_succ (l : List Int) (i : Nat) (hi : i < l.length) : (rowsTo l i).set i (rowP l i) = rowsTo l (i + 1) := by
  apply List.ext_getElem?
  intro j
  by_cases hj : j < l.length
  · by_cases e : j = i
    · subst e
      rw [List.getElem?_set_self (by rw [rowsTo_length]; exact hj)]
      simp [rowsTo, hj]
    · rw [List.getElem?_set_ne (by omega)]
      simp only [rowsTo, List.getElem?_map, List.getElem?_range hj, Option.map_some]
      by_cases h2 : j < i
      · rw [if_pos h2, if_pos (by omega)]
      · rw [if_neg h2, if_neg (by omega)]
  · rw [List.getElem?_eq_none (by simp [rowsTo]; omega), List.getElem?_eq_none (by simp [rowsTo]; omega)]
theorem rowsTo_self (l : List Int) (i : Nat) (hi : i < l.length) : (rowsTo l i).set i ((2 ^ i : Nat) : Int) = rowsTo l i := by
  apply List.ext_getElem?
  intro j
  by_cases e : j = i
  · subst e
    rw [List.getElem?_set_self (by rw [rowsTo_length]; exact hi)]
    simp [rowsTo, hi]
  · rw [List.getElem?_set_ne (by omega)]
theorem alphabetOf_ev (l : List Int) (hl : l.length ≤ 8) (hd : ∀ i, i < l.length → meet l i i = true) : Ev (fun k => impl_alphabetOf.f k l) ((l.length : Int), (List.range l.length).map (rowP l)) := by
  have key := Ev.up (fun k (s : List Int) i => impl_alphabetOf.l0 k l l (l.length : Int) i (l.length : Int) s) l.length (fun _ _ => ((l.length : Int), (List.range l.length).map (rowP l))) (fun i s => s = rowsTo l i)
    (fun s hs => by
      refine Ev.round ?_
      simp only [impl_alphabetOf.l0]
      refine Ev.no (by omega) ?_
      have : s = (List.range l.length).map (rowP l) := by
        rw [hs]; unfold rowsTo
        exact List.map_congr_left fun a ha => by rw [if_pos (List.mem_range.1 ha)]
      rw [this]
      exact Ev.now _)
    (fun i s hi hs ih => by
      refine Ev.round ?_
      simp only [impl_alphabetOf.l0]
      refine Ev.yes (by omega) (Ev.yes (by omega) (Ev.yes (by omega) ?_))
      have inner := Ev.up (fun k (t : List Int) j => impl_alphabetOf.l1 k l (i : Int) (rd l (i : Int)) l (l.length : Int) (i : Int) l (l.length : Int) j (l.length : Int) t) l.length (fun _ _ => ((l.length : Int), (List.range l.length).map (rowP l)))
        (fun j t => t = (rowsTo l i).set i ((orN (meet l i) j (2 ^ i) : Nat) : Int))
        (fun t ht => by
          refine Ev.round ?_
          simp only [impl_alphabetOf.l1]
          refine Ev.no (by omega) ?_
          rw [w64s (by omega)]
          refine ih _ ?_
          rw [ht, orN_start _ _ _ hi (hd i hi)]
          exact rowsTo_succ l i hi)
        (fun j t hj ht ihj => by
          refine Ev.round ?_
          simp only [impl_alphabetOf.l1]
          refine Ev.yes (by omega) (Ev.yes (by omega) (Ev.yes (by omega) ?_))
          rw [w64s (by omega)]
          by_cases hb : bits .and .i64 (rd l (i : Int)) (rd l (j : Int)) = 0
          · refine Ev.yes hb (ihj _ ?_)
            have hm : meet l i j = false := by unfold meet; simpa using hb
            rw [ht, orN_no hm]
          · have htl : t.length = l.length := by rw [ht]; simp [rowsTo]
            refine Ev.no hb (Ev.yes (by omega) (Ev.yes (by omega) (Ev.here (show impl_one.f (j : Int) = some (((2 ^ j : Nat) : Int)) by unfold impl_one.f; rw [if_pos (by omega), shl1 (by omega)]) (ihj _ ?_))))
            have hm : meet l i j = true := by unfold meet; simpa using hb
            rw [Int.toNat_natCast, rd_lt (by omega : i < t.length)]
            have hti : t[i]'(by omega) = ((orN (meet l i) j (2 ^ i) : Nat) : Int) := by
              simp only [ht]
              exact List.getElem_set_self _
            rw [hti, ht, List.set_set, orN_yes hm]
            congr 1
            exact orStep (m := 8) (by omega) (Nat.pow_lt_pow_right (by decide) (by omega)) (by omega))
      have := inner 0 s (by omega) (by rw [hs]; exact (rowsTo_self l i hi).symm)
      simpa using this)
  unfold impl_alphabetOf.f
  refine Ev.here (show _ = some (l.length : Int) from rfl) (Ev.bind (loose_ev l.length hl) ?_)
  have := key 0 ((List.range l.length).map fun i => ((2 ^ i : Nat) : Int)) (by omega) (by
    unfold rowsTo
    exact List.map_congr_left fun a _ => by rw [if_neg (by omega)])
  simpa using this
/-- What AlphabetOfPlaces answers. -/
def alA (n : Int) (l : List Int) : Int × List Int × Int := if arePl n l = true then ((l.length : Int), (List.range l.length).map (rowP l), 0) else (0, [], 1)
theorem arePl_in {n : Int} {l : List Int} (h : arePl n l = true) : l.length ≤ 8 ∧ ∀ i, i < l.length → meet l i i = true := by
  unfold arePl inRB at h
  simp only [Bool.and_eq_true, decide_eq_true_eq, List.all_eq_true] at h
  obtain ⟨⟨h1, h2⟩, h3, h4⟩ := h
  refine ⟨by omega, fun i hi => ?_⟩
  have hx := h4 _ (List.getElem_mem hi)
  unfold meet
  rw [rd_lt hi]
  have hs : shl .i64 1 n ≤ 16 := by
    obtain ⟨m, rfl⟩ := Int.eq_ofNat_of_zero_le (by omega : 0 ≤ n)
    rw [shl1 (by omega)]
    have : (2 : Nat) ^ m ≤ 2 ^ 4 := Nat.pow_le_pow_right (by decide) (by omega)
    omega
  have hs0 : 0 ≤ shl .i64 1 n := by
    obtain ⟨m, rfl⟩ := Int.eq_ofNat_of_zero_le (by omega : 0 ≤ n)
    rw [shl1 (by omega)]
    exact Int.natCast_nonneg _
  rw [w64 (by omega) (by omega)] at hx
  generalize l[i] = x at hx
  obtain ⟨m, rfl⟩ := Int.eq_ofNat_of_zero_le (by omega : 0 ≤ x)
  rw [band (by omega) (by omega), Nat.and_self]
  simp
  omega
theorem spec_ev (n : Int) (l : List Int) (hl : l.length ≤ 1048576) : Ev (fun k => spec_AlphabetOfPlaces.f k n l) (alA n l) := by
  unfold spec_AlphabetOfPlaces.f alA
  refine Ev.bind (l14Places_ev n l (by omega)) ?_
  cases h : arePl n l
  · exact Ev.no (by simp) (Ev.now _)
  · exact Ev.yes rfl (Ev.bind (l14Alphabet_ev l (arePl_in h).1) (Ev.now _))
theorem impl_ev (n : Int) (l : List Int) (hl : l.length ≤ 1048576) : Ev (fun k => impl_AlphabetOfPlaces.f k n l) (alA n l) := by
  unfold impl_AlphabetOfPlaces.f alA
  refine Ev.here (arePlaces_eq n l) ?_
  cases h : arePl n l
  · exact Ev.no (by simp) (Ev.now _)
  · exact Ev.yes rfl (Ev.bind (alphabetOf_ev l (arePl_in h).1 (arePl_in h).2) (Ev.now _))
theorem FnExactAlphabetOfPlaces : ∀ (a0 : Int) (l1 : List Int), ((Lit.int .i64 a0).wf = true) → (l1.length ≤ maxLen ∧ ∀ x0 ∈ l1, (Lit.int .i64 x0).wf = true) → ∃ k, laws_FnExactAlphabetOfPlaces.f k a0 l1 = some true := by
  intro n l _ _
  apply Ev.rounds
  unfold laws_FnExactAlphabetOfPlaces.f
  by_cases hl : (l.length : Int) > 1048576
  · exact Ev.yes hl (Ev.now _)
  refine Ev.no hl (Ev.bind (toS l (by omega)) (Ev.bind (spec_ev n l (by omega)) (Ev.bind (toS l (by omega)) (Ev.bind (impl_ev n l (by omega)) ?_))))
  have hA : (alA n l).2.1.length ≤ 1048576 := by
    unfold alA
    split
    · rename_i h; have := (arePl_in h).1; simp; omega
    · simp
  generalize hr : alA n l = r at hA ⊢
  obtain ⟨r1, r2, r3⟩ := r
  simp only at hA ⊢
  refine Ev.bind (eqAl r1 r2 (by omega)) (Ev.yes rfl (Ev.round ?_))
  simp only [laws_FnExactAlphabetOfPlaces.j0]
  refine Ev.no (by simp) (Ev.bind (toS l (by omega)) (Ev.bind (eqS' rfl (by omega)) (Ev.yes rfl (Ev.bind (markS l 1 (by omega)) (Ev.no (by simp only; omega) (Ev.bind (eqAl r1 r2 (by omega)) (Ev.yes rfl (Ev.round ?_))))))))
  simp only [laws_FnExactAlphabetOfPlaces.j1]
  refine Ev.no (by simp) (Ev.bind (markAl r1 r2 hA) (Ev.bind (heldAl r1 r2.length hA) (Ev.no (by omega) (Ev.yes rfl (Ev.bind (toS l (by omega)) (Ev.bind (impl_ev n l (by omega)) ?_))))))
  rw [hr]
  refine Ev.bind (eqAl r1 r2 (by omega)) (Ev.yes rfl (Ev.round ?_))
  simp only [laws_FnExactAlphabetOfPlaces.j2]
  refine Ev.no (by simp) (Ev.bind (heldAl r1 r2.length hA) (Ev.no (by omega) (Ev.yes rfl (Ev.now _))))
end Go.Proofs.Ytcibmpomidhgiaa.Pure
end M6
section M7
namespace Go.Proofs.Ytcibmpomidhgiaa.fnExactAlphabetOfPlaces
open Go.ChangeShapes Go.WideShapes Go.ChangeAt Go.RowKit Go.Lib Go.Joins Go.Proofs.Ytcibmpomidhgiaa.P Go.Proofs.Ytcibmpomidhgiaa.Op Go.Proofs.YtcibmpomidhgiaaW.PrintWords Go.Proofs.YtcibmpomidhgiaaW.PrintLast
open Go.ChangeMaps (open_string shut_string)
set_option linter.unusedVariables false
theorem own : ownKnob Try.prog.godebug = none := by kernel_rfl
theorem laidOut : laidOutB Try.prog = true := by kernel_rfl
set_option maxRecDepth 100000 in
theorem lifted (os : Os) (started : os.Started) (H : Type) (enc : TypeId × Value → H) :
    ReturnsInHanded {} Try.checked os 3 .any (Rows.fnExactAlphabetOfPlacesSpec.pre6 enc Try.prog Try.f3 Rows.fnExactAlphabetOfPlacesRow.domain false) (Rows.fnExactAlphabetOfPlacesSpec.post enc Try.prog Try.f3 false true false false) := by
  refine returnsInHanded_of_change_sized (C := Try.checked) own started (by kernel_rfl) Try.func3
    (ChangeSpec.witness6 (enc := enc) (C := Try.checked) false ⟨#[], #[.int .i64 0, .slice none 0 0], []⟩ 8 (by kernel_rfl) (by kernel_rfl) (by kernel_rfl) (by kernel_rfl)) ?_
  intro W base args ds gs before hval0 hW hcnd hsz0 _
  have hval : ∀ (j : Nat) t v, Try.f3.params[j]? = some t → args[j]? = some v → Value.okWide Try.prog W .any base t v := hval0
  have hW' := hW
  obtain ⟨p, q, hA0, hV, rfl, hfz, hnd⟩ := hW
  have hA : DataW.TrodAll enc Try.prog W 0 (fun _ => true) true Try.f3.params.toList args.toList ds p := hA0
  rw [Try.params3] at hA hval
  obtain ⟨v0, vs0, d0, ds0, p0, q0, hargs, rfl, rfl, h0, r0⟩ := trodAll_cons hA
  obtain ⟨v1, vs1, d1, ds1, p1, q1, rfl, rfl, rfl, h1, r1⟩ := trodAll_cons r0
  obtain ⟨rfl, rfl, rfl⟩ := trodAll_nil r1
  obtain rfl : args = #[v0, v1] := by cases args; simp_all
  obtain ⟨rfl, rfl⟩ := trodVars_none hV
  have k0 := h0
  have lt0 : ∀ x ∈ p0, x.block < W.heap.size := by obtain ⟨m, hm⟩ := k0; exact DataW.trod_lt m _ _ _ hm
  obtain ⟨a0, rfl, rfl, rfl, w0⟩ := open_int Try.underlying2 (hval 0 2 v0 rfl rfl) h0
  have k1 := h1
  have lt1 : ∀ x ∈ p1, x.block < W.heap.size := by obtain ⟨m, hm⟩ := k1; exact DataW.trod_lt m _ _ _ hm
  obtain ⟨z1, len1, cap1, rfl⟩ := okWide_slice Try.underlying22 (hval 1 22 v1 rfl rfl)
  obtain ⟨f1, hf1⟩ := h1
  obtain ⟨A1, c1, l1, e1, hc1, hr1, w1⟩ := open_row hf1 (opens_slice Try.underlying22 (by kernel_rfl) (opens_int Try.underlying2))
  simp only [Value.slice.injEq] at e1
  obtain ⟨ea1, eb1, ec1⟩ := e1
  obtain rfl := ea1.symm
  subst eb1
  obtain rfl := ec1.symm
  clear hA0 hval0 hsz0
  obtain ⟨k, hk⟩ := Pure.FnExactAlphabetOfPlaces a0 l1 w0 w1
  refine (laws_FnExactAlphabetOfPlaces.calls k a0 A1 c1 l1 true W hr1 hc1 hk rfl).mono fun e W' ⟨he, bel0⟩ => ?_
  have bel : Below W.heap.size W W' := bel0
  subst he
  exact ⟨_, rfl, _, _, _, [], _, [], hW', trodAll_mk1 (shut_bool Try.underlying4 _), (trodAll_cons_mk (Below.trod laidOut (by kernel_rfl) (of_decide_eq_true (by kernel_rfl)) k0 bel lt0) (trodAll_cons_mk (Below.trod laidOut (by kernel_rfl) (of_decide_eq_true (by kernel_rfl)) k1 bel lt1) trodAll_mk0)), rfl, bel.frame _, fun h => by cases h⟩
theorem over : Rows.fnExactAlphabetOfPlacesRow.holds Try.pinned (OpenSpec.ofChange Rows.fnExactAlphabetOfPlacesSpec) :=
  OpenClaim.holds_of_wide 3 Try.f3 rfl rfl rfl rfl rfl rfl rfl ⟨rfl, rfl, rfl, rfl, rfl⟩ rfl rfl rfl rfl rfl (by kernel_rfl) Try.func3 (by kernel_rfl)
    (of_decide_eq_true (by kernel_rfl)) (by unfold Func.isWrapper; first | (rw [if_pos (by decide +kernel)]; kernel_rfl) | (rw [if_neg (by decide +kernel)]; exact ⟨rfl, rfl⟩))
    (fun os started H enc _ => lifted os started H enc)
theorem proved : Rows.FnExactAlphabetOfPlacesSaid := over
#print axioms proved
end Go.Proofs.Ytcibmpomidhgiaa.fnExactAlphabetOfPlaces
namespace Go.Proofs.Ytcibmpomidhgiaa
/-- The row, under a short name, for the claim. -/
theorem fnExactAlphabetOfPlaces_holds : Rows.FnExactAlphabetOfPlacesSaid := fnExactAlphabetOfPlaces.proved
end Go.Proofs.Ytcibmpomidhgiaa
end M7
