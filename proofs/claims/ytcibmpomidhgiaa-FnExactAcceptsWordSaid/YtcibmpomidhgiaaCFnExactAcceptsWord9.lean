import Derived.ArgAppend
import Derived.Below
import Derived.BigQuiet
import Derived.ChangeShapes
import Derived.Deep.AppendLies
import Derived.Deep.CutBlock
import Derived.Deep.DeepCutAuto
import Derived.Deep.Draws
import Derived.Deep.LoopGhost
import Derived.Deep.OwnRows
import Derived.Deep.QuietTactic
import Derived.Deep.RegionHeld3
import Derived.Deep.Slices
import Derived.KernelRfl
import Derived.Laws.BitsLemmas
import Derived.Laws.BytesArg
import Derived.Laws.IdiomCopy
import Derived.Laws.MakeOwn
import Derived.Laws.OwnMore
import Derived.Laws.Rows
import Derived.Laws.Slices
import Derived.Laws.StructEq
import Derived.Lib.AppendStr
import Derived.Lib.ConvBytes
import Derived.Lib.SliceRun
import Derived.Lib.SmallJoins
import Derived.Maps.AppendAt
import Derived.OrdersHeld
import Derived.OwnWalk
import Derived.RowKit
import Derived.RowKit3
import Derived.Shelf.Abstract
import Derived.Tactics
import Derived.Test.YtcibmpomidhgiaaProg
import Derived.WalkKit
import Derived.WideLaws
import Derived.Test.YtcibmpomidhgiaaCFnExactAcceptsWord0
import Derived.Test.YtcibmpomidhgiaaCFnExactAcceptsWord1
import Derived.Test.YtcibmpomidhgiaaCFnExactAcceptsWord2
import Derived.Test.YtcibmpomidhgiaaCFnExactAcceptsWord3
import Derived.Test.YtcibmpomidhgiaaCFnExactAcceptsWord4
import Derived.Test.YtcibmpomidhgiaaCFnExactAcceptsWord5
import Derived.Test.YtcibmpomidhgiaaCFnExactAcceptsWord6
import Derived.Test.YtcibmpomidhgiaaCFnExactAcceptsWord7
import Derived.Test.YtcibmpomidhgiaaCFnExactAcceptsWord8
section M0
namespace Go.Proofs.Ytcibmpomidhgiaa.P
open Go.RowKit Go.Proofs.Ytcibmpomidhgiaa.Sh Go.Proofs.YtcibmpomidhgiaaW.PrintWords Go.Proofs.YtcibmpomidhgiaaW.PrintLast Go.Proofs.YtcibmpomidhgiaaW.PrintMore
attribute [local go_sem] max2_int min2_int max_two min_two max_three min_three max_four min_four   -- for this text's walks alone
set_option linter.unusedVariables false
set_option linter.unusedSimpArgs false

/-! ### laws_FnExactAcceptsWord: function 5 -/
def laws_FnExactAcceptsWord.j0 : Nat → List Int → List Int → Bool → Int → Int → Int → List (List Int) → Int → Int → Int → List (List Int) → Option (Bool)
 | 0, _, _, _, _, _, _, _, _, _, _, _ => none
 | k + 1, x1, x9, x45, x324000, x324001, x324002, x324003, x343000, x343001, x343002, x343003 => if x45 = true then (some false) else ((laws_toAutomaton.f k x324000 x324001 x324002 x324003).bind fun bt348 => ((laws_eqAutomaton.f k x343000 x343001 x343002 x343003 bt348.1 bt348.2.1 bt348.2.2.1 bt348.2.2.2).bind fun t354 => (if t354 = true then ((laws_toInt64S.f k x1).bind fun t355 => ((laws_eqInt64S.f k x9 t355).bind fun t358 => (if t358 = true then (some true) else (some false)))) else (some false))))
def laws_FnExactAcceptsWord.f (k : Nat) (a0_0 : Int) (a0_1 : Int) (a0_2 : Int) (l0_3 : List (List Int)) (l1 : List Int) : Option (Bool) := if (l1.length : Int) > 1048576 then (some true) else ((laws_szAutomaton.f k a0_0 a0_1 a0_2 l0_3 1048576).bind fun t324 => (if t324 < 0 then (some true) else ((laws_toAutomaton.f k a0_0 a0_1 a0_2 l0_3).bind fun bt325 => ((laws_toInt64S.f k l1).bind fun t331 => ((spec_AcceptsWord.f k bt325.1 bt325.2.1 bt325.2.2.1 bt325.2.2.2 t331).bind fun bt334 => ((laws_toAutomaton.f k a0_0 a0_1 a0_2 l0_3).bind fun bt336 => ((laws_toInt64S.f k l1).bind fun t343 => ((impl_AcceptsWord.f k bt336.1 bt336.2.1 bt336.2.2.1 bt336.2.2.2 t343).bind fun bt346 => (if (bt346.1 != bt334.1) = true then (laws_FnExactAcceptsWord.j0 k l1 t343 true a0_0 a0_1 a0_2 l0_3 bt336.1 bt336.2.1 bt336.2.2.1 bt336.2.2.2) else (laws_FnExactAcceptsWord.j0 k l1 t343 (bt346.2 != bt334.2) a0_0 a0_1 a0_2 l0_3 bt336.1 bt336.2.1 bt336.2.2.1 bt336.2.2.2))))))))))
theorem laws_FnExactAcceptsWord.mono_l : ∀ k, (∀ y0 y1 y2 y3 y4 y5 y6 y7 y8 y9 y10, LeO (laws_FnExactAcceptsWord.j0 k y0 y1 y2 y3 y4 y5 y6 y7 y8 y9 y10) (laws_FnExactAcceptsWord.j0 (k + 1) y0 y1 y2 y3 y4 y5 y6 y7 y8 y9 y10))
 | 0 => fun _ _ _ _ _ _ _ _ _ _ _ r h => by simp [laws_FnExactAcceptsWord.j0] at h
 | k + 1 => by
  have ih0 := laws_FnExactAcceptsWord.mono_l k
  ·intro y0 y1 y2 y3 y4 y5 y6 y7 y8 y9 y10
   unfold laws_FnExactAcceptsWord.j0
   repeat' first
   | (with_reducible exact ih0 _ _ _ _ _ _ _ _ _ _ _)
   | (with_reducible exact impl_AcceptsWord.mono _ _ _ _ _ _)
   | (with_reducible exact laws_eqAutomaton.mono _ _ _ _ _ _ _ _ _)
   | (with_reducible exact laws_eqInt64S.mono _ _ _)
   | (with_reducible exact laws_szAutomaton.mono _ _ _ _ _ _)
   | (with_reducible exact laws_toAutomaton.mono _ _ _ _ _)
   | (with_reducible exact laws_toInt64S.mono _ _)
   | (with_reducible exact spec_AcceptsWord.mono _ _ _ _ _ _)
   | (with_reducible exact LeO.refl _)
   | (with_reducible exact LeO.none _)
   | (with_reducible refine LeO.ite ?_ ?_)
   | (with_reducible refine LeO.bind ?_ (fun _ => ?_))
   | exact ih0 _ _ _ _ _ _ _ _ _ _ _
   | exact impl_AcceptsWord.mono _ _ _ _ _ _
   | exact laws_eqAutomaton.mono _ _ _ _ _ _ _ _ _
   | exact laws_eqInt64S.mono _ _ _
   | exact laws_szAutomaton.mono _ _ _ _ _ _
   | exact laws_toAutomaton.mono _ _ _ _ _
   | exact laws_toInt64S.mono _ _
   | exact spec_AcceptsWord.mono _ _ _ _ _ _
   | exact LeO.none _
   | refine LeO.ite ?_ ?_
   | refine LeO.bind ?_ (fun _ => ?_)
theorem laws_FnExactAcceptsWord.mono : ∀ a0 a1 a2 a3 a4 k, LeO (laws_FnExactAcceptsWord.f k a0 a1 a2 a3 a4) (laws_FnExactAcceptsWord.f (k + 1) a0 a1 a2 a3 a4) := by
 intro a0 a1 a2 a3 a4 k
 have ih0 := laws_FnExactAcceptsWord.mono_l k
 unfold laws_FnExactAcceptsWord.f
 repeat' first
   | (with_reducible exact ih0 _ _ _ _ _ _ _ _ _ _ _)
   | (with_reducible exact impl_AcceptsWord.mono _ _ _ _ _ _)
   | (with_reducible exact laws_eqAutomaton.mono _ _ _ _ _ _ _ _ _)
   | (with_reducible exact laws_eqInt64S.mono _ _ _)
   | (with_reducible exact laws_szAutomaton.mono _ _ _ _ _ _)
   | (with_reducible exact laws_toAutomaton.mono _ _ _ _ _)
   | (with_reducible exact laws_toInt64S.mono _ _)
   | (with_reducible exact spec_AcceptsWord.mono _ _ _ _ _ _)
   | (with_reducible exact LeO.refl _)
   | (with_reducible exact LeO.none _)
   | (with_reducible refine LeO.ite ?_ ?_)
   | (with_reducible refine LeO.bind ?_ (fun _ => ?_))
   | exact ih0 _ _ _ _ _ _ _ _ _ _ _
   | exact impl_AcceptsWord.mono _ _ _ _ _ _
   | exact laws_eqAutomaton.mono _ _ _ _ _ _ _ _ _
   | exact laws_eqInt64S.mono _ _ _
   | exact laws_szAutomaton.mono _ _ _ _ _ _
   | exact laws_toAutomaton.mono _ _ _ _ _
   | exact laws_toInt64S.mono _ _
   | exact spec_AcceptsWord.mono _ _ _ _ _ _
   | exact LeO.none _
   | refine LeO.ite ?_ ?_
   | refine LeO.bind ?_ (fun _ => ?_)
set_option maxHeartbeats 8000000 in
set_option maxRecDepth 100000 in
theorem laws_FnExactAcceptsWord.calls (k : Nat) (a0_0 : Int) (a0_1 : Int) (a0_2 : Int) (A0_3 : Option Addr) (c0_3 : Nat) (l0_3 : List (List Int)) (A1 : Option Addr) (c1 : Nat) (l1 : List Int) (r : Bool) (w : World) (hr0_3 : Kd.C (Kd.slice 2 (Kd.int .i64)) w A0_3 l0_3.length l0_3) (hc0_3 : l0_3.length ≤ c0_3) (hr1 : Kd.C (Kd.int .i64) w A1 l1.length l1) (hc1 : l1.length ≤ c1) (h : laws_FnExactAcceptsWord.f k a0_0 a0_1 a0_2 l0_3 l1 = some r) (hT_ : r = true) :
  Calls Try.prog 5 #[.agg #[.int .i64 a0_0, .int .i64 a0_1, .int .i64 a0_2, .slice A0_3 l0_3.length c0_3], .slice A1 l1.length c1] w fun e w' => e = .returned (.bool r) ∧ Below w.heap.size w w' := by
 have HT_ := Aside0.mk hT_
 clear hT_
 have hu35 := Try.underlying35
 have hu38 := Try.underlying38
 have HR0_3 := Aside0.mk hr0_3
 have HC0_3 := Aside0.mk hc0_3
 clear hr0_3 hc0_3
 have HR1 := Aside0.mk hr1
 have HC1 := Aside0.mk hc1
 clear hr1 hc1
 have HB := Aside0.mk (Below.refl w.heap.size w)
 have H : (if (l1.length : Int) > 1048576 then (some true) else ((laws_szAutomaton.f k a0_0 a0_1 a0_2 l0_3 1048576).bind fun t324 => (if t324 < 0 then (some true) else ((laws_toAutomaton.f k a0_0 a0_1 a0_2 l0_3).bind fun bt325 => ((laws_toInt64S.f k l1).bind fun t331 => ((spec_AcceptsWord.f k bt325.1 bt325.2.1 bt325.2.2.1 bt325.2.2.2 t331).bind fun bt334 => ((laws_toAutomaton.f k a0_0 a0_1 a0_2 l0_3).bind fun bt336 => ((laws_toInt64S.f k l1).bind fun t343 => ((impl_AcceptsWord.f k bt336.1 bt336.2.1 bt336.2.2.1 bt336.2.2.2 t343).bind fun bt346 => (if (bt346.1 != bt334.1) = true then (laws_FnExactAcceptsWord.j0 k l1 t343 true a0_0 a0_1 a0_2 l0_3 bt336.1 bt336.2.1 bt336.2.2.1 bt336.2.2.2) else (laws_FnExactAcceptsWord.j0 k l1 t343 (bt346.2 != bt334.2) a0_0 a0_1 a0_2 l0_3 bt336.1 bt336.2.1 bt336.2.2.1 bt336.2.2.2))))))))))) = some r := h
 clear h
 by_cases c3 : (l1.length : Int) > 1048576
 ·rw [if_pos c3] at H
  have c3b0 : decide (1048576 < (l1.length : Int)) = true := decide_eq_true c3
  have c3b1 : decide (1048576 < l1.length) = true := decide_eq_true (by omega)
  clear c3
  obtain rfl := Option.some.inj H
  go_enter Try.func5, Try.ntmps5
  go_wp2_with (first | ((with_reducible refine gate_dst (N := 2) rfl ?_); refine boxS (N := 2) (cs := #[.int .i64 a0_0, .int .i64 a0_1, .int .i64 a0_2, .slice A0_3 l0_3.length c0_3]) (t := 35) ?_; intro gb323 hg w4 hbox hb; have n0_ := Aside0.mk (below_step (bW) hb); have n1_ := Aside0.mk (hbox); have n2_ := geW (w := w) hg; have n3_ := geW (w := w) hg; clear HB; have HB := n0_; have BK323 := n1_; have GW323 := n2_; have GE323 := n3_; clear n0_ n1_ n2_ n3_; clear hb hbox hg))
  go_ret
  exact ⟨eW, bW⟩
 ·rw [if_neg c3] at H
  have c3b0 : decide (1048576 < (l1.length : Int)) = false := decide_eq_false c3
  have c3b1 : decide (1048576 < l1.length) = false := decide_eq_false (by omega)
  clear c3
  replace H := Option.bind_eq_some_iff.mp H
  obtain ⟨t324, A50, H⟩ := H
  replace H : (if t324 < 0 then (some true) else ((laws_toAutomaton.f k a0_0 a0_1 a0_2 l0_3).bind fun bt325 => ((laws_toInt64S.f k l1).bind fun t331 => ((spec_AcceptsWord.f k bt325.1 bt325.2.1 bt325.2.2.1 bt325.2.2.2 t331).bind fun bt334 => ((laws_toAutomaton.f k a0_0 a0_1 a0_2 l0_3).bind fun bt336 => ((laws_toInt64S.f k l1).bind fun t343 => ((impl_AcceptsWord.f k bt336.1 bt336.2.1 bt336.2.2.1 bt336.2.2.2 t343).bind fun bt346 => (if (bt346.1 != bt334.1) = true then (laws_FnExactAcceptsWord.j0 k l1 t343 true a0_0 a0_1 a0_2 l0_3 bt336.1 bt336.2.1 bt336.2.2.1 bt336.2.2.2) else (laws_FnExactAcceptsWord.j0 k l1 t343 (bt346.2 != bt334.2) a0_0 a0_1 a0_2 l0_3 bt336.1 bt336.2.1 bt336.2.2.1 bt336.2.2.2))))))))) = some r := H
  have A5 := Aside0.mk A50
  clear A50
  by_cases c6 : t324 < 0
  ·rw [if_pos c6] at H
   have c6b0 : decide (t324 < 0) = true := decide_eq_true c6
   clear c6
   obtain rfl := Option.some.inj H
   go_enter Try.func5, Try.ntmps5
   go_wp2_with (first | ((with_reducible refine gate_dst (N := 2) rfl ?_); refine boxS (N := 2) (cs := #[.int .i64 a0_0, .int .i64 a0_1, .int .i64 a0_2, .slice A0_3 l0_3.length c0_3]) (t := 35) ?_; intro gb323 hg w7 hbox hb; have n0_ := Aside0.mk (below_step (bW) hb); have n1_ := Aside0.mk (hbox); have n2_ := geW (w := w) hg; have n3_ := geW (w := w) hg; clear HB; have HB := n0_; have BK323 := n1_; have GW323 := n2_; have GE323 := n3_; clear n0_ n1_ n2_ n3_; clear hb hbox hg; obtain ⟨hcz8_0, hcz8_1, hcz8_2, hcz8_3⟩ := cells4 BK323.out; obtain ⟨hfz8_0, hfz8_1, hfz8_2, hfz8_3⟩ := frz4 BK323.out) | ((with_reducible refine gate_callee (f := 16) rfl ?_); refine goesS (some 17) Try.func16 #[.agg #[.int .i64 a0_0, .int .i64 a0_1, .int .i64 a0_2, .slice A0_3 l0_3.length c0_3], .int .i64 1048576] ?_; (with_reducible refine (laws_szAutomaton.calls k a0_0 a0_1 a0_2 _ _ l0_3 1048576 t324 _ ?side1 ?side2 A5.out).mono ?_); (case side1 => exact cP (Kd.C_below HR0_3.out HB.out)); (case side2 => exact HC0_3.out); rintro e w9 ⟨rfl, hb⟩; refine ⟨_, rfl, ?_⟩; have n0_ := Aside0.mk (blkB BK323.out hb); have n1_ := Aside0.mk (below_step (bW) hb); clear BK323; clear HB; have BK323 := n0_; have HB := n1_; clear n0_ n1_; (try clear hb); (try clear hb2); (try clear hk); (try clear hi)))
   go_ret
   exact ⟨eW, bW⟩
  ·rw [if_neg c6] at H
   have c6b0 : decide (t324 < 0) = false := decide_eq_false c6
   clear c6
   replace H := Option.bind_eq_some_iff.mp H
   obtain ⟨⟨t325, t326, t327, t328⟩, A100, H⟩ := H
   replace H : ((laws_toInt64S.f k l1).bind fun t331 => ((spec_AcceptsWord.f k t325 t326 t327 t328 t331).bind fun bt334 => ((laws_toAutomaton.f k a0_0 a0_1 a0_2 l0_3).bind fun bt336 => ((laws_toInt64S.f k l1).bind fun t343 => ((impl_AcceptsWord.f k bt336.1 bt336.2.1 bt336.2.2.1 bt336.2.2.2 t343).bind fun bt346 => (if (bt346.1 != bt334.1) = true then (laws_FnExactAcceptsWord.j0 k l1 t343 true a0_0 a0_1 a0_2 l0_3 bt336.1 bt336.2.1 bt336.2.2.1 bt336.2.2.2) else (laws_FnExactAcceptsWord.j0 k l1 t343 (bt346.2 != bt334.2) a0_0 a0_1 a0_2 l0_3 bt336.1 bt336.2.1 bt336.2.2.1 bt336.2.2.2))))))) = some r := H
   have A10 := Aside0.mk A100
   clear A100
   replace H := Option.bind_eq_some_iff.mp H
   obtain ⟨t331, A110, H⟩ := H
   replace H : ((spec_AcceptsWord.f k t325 t326 t327 t328 t331).bind fun bt334 => ((laws_toAutomaton.f k a0_0 a0_1 a0_2 l0_3).bind fun bt336 => ((laws_toInt64S.f k l1).bind fun t343 => ((impl_AcceptsWord.f k bt336.1 bt336.2.1 bt336.2.2.1 bt336.2.2.2 t343).bind fun bt346 => (if (bt346.1 != bt334.1) = true then (laws_FnExactAcceptsWord.j0 k l1 t343 true a0_0 a0_1 a0_2 l0_3 bt336.1 bt336.2.1 bt336.2.2.1 bt336.2.2.2) else (laws_FnExactAcceptsWord.j0 k l1 t343 (bt346.2 != bt334.2) a0_0 a0_1 a0_2 l0_3 bt336.1 bt336.2.1 bt336.2.2.1 bt336.2.2.2)))))) = some r := H
   have A11 := Aside0.mk A110
   clear A110
   replace H := Option.bind_eq_some_iff.mp H
   obtain ⟨⟨t334, t335⟩, A120, H⟩ := H
   replace H : ((laws_toAutomaton.f k a0_0 a0_1 a0_2 l0_3).bind fun bt336 => ((laws_toInt64S.f k l1).bind fun t343 => ((impl_AcceptsWord.f k bt336.1 bt336.2.1 bt336.2.2.1 bt336.2.2.2 t343).bind fun bt346 => (if (bt346.1 != t334) = true then (laws_FnExactAcceptsWord.j0 k l1 t343 true a0_0 a0_1 a0_2 l0_3 bt336.1 bt336.2.1 bt336.2.2.1 bt336.2.2.2) else (laws_FnExactAcceptsWord.j0 k l1 t343 (bt346.2 != t335) a0_0 a0_1 a0_2 l0_3 bt336.1 bt336.2.1 bt336.2.2.1 bt336.2.2.2))))) = some r := H
   have A12 := Aside0.mk A120
   clear A120
   replace H := Option.bind_eq_some_iff.mp H
   obtain ⟨⟨t336, t337, t338, t339⟩, A130, H⟩ := H
   replace H : ((laws_toInt64S.f k l1).bind fun t343 => ((impl_AcceptsWord.f k t336 t337 t338 t339 t343).bind fun bt346 => (if (bt346.1 != t334) = true then (laws_FnExactAcceptsWord.j0 k l1 t343 true a0_0 a0_1 a0_2 l0_3 t336 t337 t338 t339) else (laws_FnExactAcceptsWord.j0 k l1 t343 (bt346.2 != t335) a0_0 a0_1 a0_2 l0_3 t336 t337 t338 t339)))) = some r := H
   have A13 := Aside0.mk A130
   clear A130
   replace H := Option.bind_eq_some_iff.mp H
   obtain ⟨t343, A140, H⟩ := H
   replace H : ((impl_AcceptsWord.f k t336 t337 t338 t339 t343).bind fun bt346 => (if (bt346.1 != t334) = true then (laws_FnExactAcceptsWord.j0 k l1 t343 true a0_0 a0_1 a0_2 l0_3 t336 t337 t338 t339) else (laws_FnExactAcceptsWord.j0 k l1 t343 (bt346.2 != t335) a0_0 a0_1 a0_2 l0_3 t336 t337 t338 t339))) = some r := H
   have A14 := Aside0.mk A140
   clear A140
   replace H := Option.bind_eq_some_iff.mp H
   obtain ⟨⟨t346, t347⟩, A150, H⟩ := H
   replace H : (if (t346 != t334) = true then (laws_FnExactAcceptsWord.j0 k l1 t343 true a0_0 a0_1 a0_2 l0_3 t336 t337 t338 t339) else (laws_FnExactAcceptsWord.j0 k l1 t343 (t347 != t335) a0_0 a0_1 a0_2 l0_3 t336 t337 t338 t339)) = some r := H
   have A15 := Aside0.mk A150
   clear A150
   have HC16 := Aside0.mk H
   clear H
   go_enter Try.func5, Try.ntmps5
   go_upto_region 11 with (first | ((with_reducible refine gate_dst (N := 2) rfl ?_); refine boxS (N := 2) (cs := #[.int .i64 a0_0, .int .i64 a0_1, .int .i64 a0_2, .slice A0_3 l0_3.length c0_3]) (t := 35) ?_; intro gb323 hg w17 hbox hb; have n0_ := Aside0.mk (below_step (bW) hb); have n1_ := Aside0.mk (hbox); have n2_ := geW (w := w) hg; have n3_ := geW (w := w) hg; clear HB; have HB := n0_; have BK323 := n1_; have GW323 := n2_; have GE323 := n3_; clear n0_ n1_ n2_ n3_; clear hb hbox hg; obtain ⟨hcz18_0, hcz18_1, hcz18_2, hcz18_3⟩ := cells4 BK323.out; obtain ⟨hfz18_0, hfz18_1, hfz18_2, hfz18_3⟩ := frz4 BK323.out) | ((with_reducible refine gate_callee (f := 16) rfl ?_); refine goesS (some 17) Try.func16 #[.agg #[.int .i64 a0_0, .int .i64 a0_1, .int .i64 a0_2, .slice A0_3 l0_3.length c0_3], .int .i64 1048576] ?_; (with_reducible refine (laws_szAutomaton.calls k a0_0 a0_1 a0_2 _ _ l0_3 1048576 t324 _ ?side1 ?side2 A5.out).mono ?_); (case side1 => exact cP (Kd.C_below HR0_3.out HB.out)); (case side2 => exact HC0_3.out); rintro e w19 ⟨rfl, hb⟩; refine ⟨_, rfl, ?_⟩; have n0_ := Aside0.mk (blkB BK323.out hb); have n1_ := Aside0.mk (below_step (bW) hb); clear BK323; clear HB; have BK323 := n0_; have HB := n1_; clear n0_ n1_; (try clear hb); (try clear hb2); (try clear hk); (try clear hi); obtain ⟨hcz20_0, hcz20_1, hcz20_2, hcz20_3⟩ := cells4 BK323.out; obtain ⟨hfz20_0, hfz20_1, hfz20_2, hfz20_3⟩ := frz4 BK323.out) | ((with_reducible refine gate_callee (f := 18) rfl ?_); refine goesS (some 22) Try.func18 #[.agg #[.int .i64 a0_0, .int .i64 a0_1, .int .i64 a0_2, .slice A0_3 l0_3.length c0_3]] ?_; (with_reducible refine (laws_toAutomaton.calls k a0_0 a0_1 a0_2 _ _ l0_3 t325 t326 t327 t328 _ ?side1 ?side2 A10.out).mono ?_); (case side1 => exact cP (Kd.C_below HR0_3.out HB.out)); (case side2 => exact HC0_3.out); rintro e w21 ⟨v329, rfl, ho0, hb⟩; refine ⟨_, rfl, ?_⟩; have n0_ := Aside0.mk (Kd.S_lower ho0 (below_size (bW))); have n1_ := Aside0.mk (blkB BK323.out hb); have n2_ := Aside0.mk (below_step (bW) hb); clear BK323; clear HB; have HO330 := n0_; have BK323 := n1_; have HB := n2_; clear n0_ n1_ n2_; (try clear hb); (try clear hb2); (try clear hk); (try clear hi); (try clear ho0)) | ((with_reducible refine gate_callee (f := 9) rfl ?_); refine goesS (some 24) Try.func9 #[.slice A1 l1.length c1] ?_; (with_reducible refine (laws_toInt64S.calls k _ _ l1 t331 _ ?side1 ?side2 A11.out).mono ?_); (case side1 => exact cP (Kd.C_below HR1.out HB.out)); (case side2 => exact HC1.out); rintro e w22 ⟨v332, rfl, ho0, hb⟩; refine ⟨_, rfl, ?_⟩; have n0_ := Aside0.mk (Kd.S_elder' (sP HO330.out) (Kd.R_base ho0) hb); have n1_ := Aside0.mk (Kd.R_lower ho0 (below_size (bW))); have n2_ := Aside0.mk (blkB BK323.out hb); have n3_ := Aside0.mk (below_step (bW) hb); clear HO330; clear BK323; clear HB; have HO330 := n0_; have HO333 := n1_; have BK323 := n2_; have HB := n3_; clear n0_ n1_ n2_ n3_; (try clear hb); (try clear hb2); (try clear hk); (try clear hi); (try clear ho0); obtain ⟨Ao23, co23, eo23⟩ := Kd.S_slice HO330.out; subst eo23; obtain ⟨Ao24, co24, eo24⟩ := Kd.R_slice HO333.out; subst eo24) | ((with_reducible refine gate_callee (f := 21) rfl ?_); refine goesS (some 25) Try.func21 #[.agg #[.int .i64 t325, .int .i64 t326, .int .i64 t327, .slice Ao23 t328.length co23], .slice Ao24 t331.length co24] ?_; (with_reducible refine (spec_AcceptsWord.calls k t325 t326 t327 _ _ t328 _ _ t331 t334 t335 _ ?side1 ?side2 ?side3 ?side4 A12.out).mono ?_); (case side1 => exact cP ((Kd.S_reads' HO330.out).2.2)); (case side2 => exact (Kd.S_reads' HO330.out).2.1); (case side3 => exact cP ((Kd.R_reads' HO333.out).2.2)); (case side4 => exact (Kd.R_reads' HO333.out).2.1); rintro e w25 ⟨rfl, hb⟩; refine ⟨_, rfl, ?_⟩; have n0_ := Aside0.mk (Kd.S_below (sP HO330.out) hb); have n1_ := Aside0.mk (Kd.R_below (rP HO333.out) hb); have n2_ := Aside0.mk (blkB BK323.out hb); have n3_ := Aside0.mk (below_step (bW) hb); clear HO330; clear HO333; clear BK323; clear HB; have HO330 := n0_; have HO333 := n1_; have BK323 := n2_; have HB := n3_; clear n0_ n1_ n2_ n3_; (try clear hb); (try clear hb2); (try clear hk); (try clear hi); obtain ⟨hcz26_0, hcz26_1, hcz26_2, hcz26_3⟩ := cells4 BK323.out; obtain ⟨hfz26_0, hfz26_1, hfz26_2, hfz26_3⟩ := frz4 BK323.out) | ((with_reducible refine gate_callee (f := 18) rfl ?_); refine goesS (some 29) Try.func18 #[.agg #[.int .i64 a0_0, .int .i64 a0_1, .int .i64 a0_2, .slice A0_3 l0_3.length c0_3]] ?_; (with_reducible refine (laws_toAutomaton.calls k a0_0 a0_1 a0_2 _ _ l0_3 t336 t337 t338 t339 _ ?side1 ?side2 A13.out).mono ?_); (case side1 => exact cP (Kd.C_below HR0_3.out HB.out)); (case side2 => exact HC0_3.out); rintro e w27 ⟨v340, rfl, ho0, hb⟩; refine ⟨_, rfl, ?_⟩; have n0_ := Aside0.mk (Kd.S_elder' (sP HO330.out) (Kd.S_base ho0) hb); have n1_ := Aside0.mk (Kd.R_below (rP HO333.out) hb); have n2_ := Aside0.mk (Kd.S_lower (Kd.S_new' (Kd.S_new' ho0 (Kd.S_lt (sP HO330.out))) (Kd.R_lt (rP HO333.out))) (below_size (bW))); have n3_ := Aside0.mk (blkB BK323.out hb); have n4_ := Aside0.mk (below_step (bW) hb); clear HO330; clear HO333; clear BK323; clear HB; have HO330 := n0_; have HO333 := n1_; have HO341 := n2_; have BK323 := n3_; have HB := n4_; clear n0_ n1_ n2_ n3_ n4_; (try clear hb); (try clear hb2); (try clear hk); (try clear hi); (try clear ho0)) | ((with_reducible refine gate_dst (N := 8) rfl ?_); refine boxS (N := 8) (cs := #[.int .i64 0, .int .i64 0, .int .i64 0, .slice none 0 0]) (t := 38) ?_; intro gb342 hg w28 hbox hb; have n0_ := Aside0.mk (Kd.S_below (sP HO330.out) hb); have n1_ := Aside0.mk (Kd.R_below (rP HO333.out) hb); have n2_ := Aside0.mk (Kd.S_below (sP HO341.out) hb); have n3_ := Aside0.mk (blkB BK323.out hb); have n4_ := Aside0.mk (below_step (bW) hb); have n5_ := Aside0.mk (hbox); have n6_ := geW (w := w) hg; have n7_ := geW (w := w) hg; have n8_ := Aside0.mk ((by rw [hg]; exact Nat.ne_of_lt (blk_lt (g := gb323) (o := .cells #[.int .i64 a0_0, .int .i64 a0_1, .int .i64 a0_2, .slice A0_3 l0_3.length c0_3] 35 (0, 0)) (bP BK323.out)) : gb323 ≠ gb342)); have n9_ := Aside0.mk ((by rw [hg]; exact Nat.ne_of_gt (blk_lt (g := gb323) (o := .cells #[.int .i64 a0_0, .int .i64 a0_1, .int .i64 a0_2, .slice A0_3 l0_3.length c0_3] 35 (0, 0)) (bP BK323.out)) : gb342 ≠ gb323)); clear HO330; clear HO333; clear HO341; clear BK323; clear HB; have HO330 := n0_; have HO333 := n1_; have HO341 := n2_; have BK323 := n3_; have HB := n4_; have BK342 := n5_; have GW342 := n6_; have GE342 := n7_; have NB323_342 := n8_; have NB342_323 := n9_; clear n0_ n1_ n2_ n3_ n4_ n5_ n6_ n7_ n8_ n9_; clear hb hbox hg; have hnb29 := NB342_323.out; have hnc29 := NB323_342.out; obtain ⟨hcz30_0, hcz30_1, hcz30_2, hcz30_3⟩ := cells4 BK342.out; obtain ⟨hfz30_0, hfz30_1, hfz30_2, hfz30_3⟩ := frz4 BK342.out; obtain ⟨Ao31, co31, eo31⟩ := Kd.S_slice HO341.out; subst eo31) | ((with_reducible refine gate_callee (f := 9) rfl ?_); refine goesS (some 31) Try.func9 #[.slice A1 l1.length c1] ?_; (with_reducible refine (laws_toInt64S.calls k _ _ l1 t343 _ ?side1 ?side2 A14.out).mono ?_); (case side1 => exact Kd.C_below HR1.out (bW)); (case side2 => exact HC1.out); rintro e w32 ⟨v344, rfl, ho0, hb⟩; refine ⟨_, rfl, ?_⟩; have n0_ := Aside0.mk (Kd.S_elder' (by (with_reducible repeat (first | apply Kd.S_alloc | apply Kd.S_drewN | apply Kd.S_drew)); exact (Kd.S_mono (Kd.S_far (p := ⟨gb342, 3, none⟩) (Kd.S_far (p := ⟨gb342, 2, none⟩) (Kd.S_far (p := ⟨gb342, 1, none⟩) (Kd.S_far (p := ⟨gb342, 0, none⟩) (Kd.S_types HO330.out BK342.out (by decide)) (fun _ hk => hk.2) (.int .i64 t336)) (fun _ hk => hk.2) (.int .i64 t337)) (fun _ hk => hk.2) (.int .i64 t338)) (fun _ hk => hk.2) (.slice Ao31 t339.length co31)) (fun _ h_ => h_.1))) (Kd.R_base ho0) hb); have n1_ := Aside0.mk (Kd.R_elder' (by (with_reducible repeat (first | apply Kd.R_alloc | apply Kd.R_drewN | apply Kd.R_drew)); exact (Kd.R_mono (Kd.R_far (p := ⟨gb342, 3, none⟩) (Kd.R_far (p := ⟨gb342, 2, none⟩) (Kd.R_far (p := ⟨gb342, 1, none⟩) (Kd.R_far (p := ⟨gb342, 0, none⟩) (Kd.R_types HO333.out BK342.out (by decide)) (fun _ hk => hk.2) (.int .i64 t336)) (fun _ hk => hk.2) (.int .i64 t337)) (fun _ hk => hk.2) (.int .i64 t338)) (fun _ hk => hk.2) (.slice Ao31 t339.length co31)) (fun _ h_ => h_.1))) (Kd.R_base ho0) hb); have n2_ := Aside0.mk (Kd.S_elder' (by (with_reducible repeat (first | apply Kd.S_alloc | apply Kd.S_drewN | apply Kd.S_drew)); exact (Kd.S_mono (Kd.S_far (p := ⟨gb342, 3, none⟩) (Kd.S_far (p := ⟨gb342, 2, none⟩) (Kd.S_far (p := ⟨gb342, 1, none⟩) (Kd.S_far (p := ⟨gb342, 0, none⟩) (Kd.S_types HO341.out BK342.out (by decide)) (fun _ hk => hk.2) (.int .i64 t336)) (fun _ hk => hk.2) (.int .i64 t337)) (fun _ hk => hk.2) (.int .i64 t338)) (fun _ hk => hk.2) (.slice Ao31 t339.length co31)) (fun _ h_ => h_.1))) (Kd.R_base ho0) hb); have n3_ := Aside0.mk (Kd.R_lower (Kd.R_new' ho0 (Kd.R_lt (by (with_reducible repeat (first | apply Kd.R_alloc | apply Kd.R_drewN | apply Kd.R_drew)); exact (Kd.R_mono (Kd.R_far (p := ⟨gb342, 3, none⟩) (Kd.R_far (p := ⟨gb342, 2, none⟩) (Kd.R_far (p := ⟨gb342, 1, none⟩) (Kd.R_far (p := ⟨gb342, 0, none⟩) (Kd.R_types HO333.out BK342.out (by decide)) (fun _ hk => hk.2) (.int .i64 t336)) (fun _ hk => hk.2) (.int .i64 t337)) (fun _ hk => hk.2) (.int .i64 t338)) (fun _ hk => hk.2) (.slice Ao31 t339.length co31)) (fun _ h_ => h_.1))))) (below_size (bW))); have n4_ := Aside0.mk (blk_below (g := gb323) (o := .cells #[.int .i64 a0_0, .int .i64 a0_1, .int .i64 a0_2, .slice A0_3 l0_3.length c0_3] 35 (0, 0)) (by (with_reducible repeat (first | refine blk_drewN ?_ _ | refine blk_drew ?_ | refine blk_alloc ?_ _)); refine blk_far ?_ NB323_342.out _; (with_reducible repeat (first | refine blk_drewN ?_ _ | refine blk_drew ?_ | refine blk_alloc ?_ _)); refine blk_far ?_ NB323_342.out _; (with_reducible repeat (first | refine blk_drewN ?_ _ | refine blk_drew ?_ | refine blk_alloc ?_ _)); refine blk_far ?_ NB323_342.out _; (with_reducible repeat (first | refine blk_drewN ?_ _ | refine blk_drew ?_ | refine blk_alloc ?_ _)); refine blk_far ?_ NB323_342.out _; exact bP BK323.out) hb); have n5_ := Aside0.mk (blk_below (g := gb342) (o := .cells #[.int .i64 t336, .int .i64 t337, .int .i64 t338, .slice Ao31 t339.length co31] 38 (0, 0)) (by (with_reducible repeat (first | refine blk_drewN ?_ _ | refine blk_drew ?_ | refine blk_alloc ?_ _)); refine blk_put (cs := #[.int .i64 t336, .int .i64 t337, .int .i64 t338, .slice none 0 0]) ?_ 3 _ rfl; (with_reducible repeat (first | refine blk_drewN ?_ _ | refine blk_drew ?_ | refine blk_alloc ?_ _)); refine blk_put (cs := #[.int .i64 t336, .int .i64 t337, .int .i64 0, .slice none 0 0]) ?_ 2 _ rfl; (with_reducible repeat (first | refine blk_drewN ?_ _ | refine blk_drew ?_ | refine blk_alloc ?_ _)); refine blk_put (cs := #[.int .i64 t336, .int .i64 0, .int .i64 0, .slice none 0 0]) ?_ 1 _ rfl; (with_reducible repeat (first | refine blk_drewN ?_ _ | refine blk_drew ?_ | refine blk_alloc ?_ _)); refine blk_put (cs := #[.int .i64 0, .int .i64 0, .int .i64 0, .slice none 0 0]) ?_ 0 _ rfl; exact bP BK342.out) hb); have n6_ := Aside0.mk (below_step (bW) hb); clear HO330; clear HO333; clear HO341; clear BK323; clear BK342; clear HB; have HO330 := n0_; have HO333 := n1_; have HO341 := n2_; have HO345 := n3_; have BK323 := n4_; have BK342 := n5_; have HB := n6_; clear n0_ n1_ n2_ n3_ n4_ n5_ n6_; (try clear hb); (try clear hb2); (try clear hk); (try clear hi); (try clear ho0); obtain ⟨hcz33_0, hcz33_1, hcz33_2, hcz33_3⟩ := cells4 BK342.out; obtain ⟨hfz33_0, hfz33_1, hfz33_2, hfz33_3⟩ := frz4 BK342.out; obtain ⟨Ao34, co34, eo34⟩ := Kd.R_slice HO345.out; subst eo34) | ((with_reducible refine gate_callee (f := 22) rfl ?_); refine goesS (some 35) Try.func22 #[.agg #[.int .i64 t336, .int .i64 t337, .int .i64 t338, .slice Ao31 t339.length co31], .slice Ao34 t343.length co34] ?_; (with_reducible refine (impl_AcceptsWord.calls k t336 t337 t338 _ _ t339 _ _ t343 t346 t347 _ ?side1 ?side2 ?side3 ?side4 A15.out).mono ?_); (case side1 => exact cP ((Kd.S_reads' HO341.out).2.2)); (case side2 => exact (Kd.S_reads' HO341.out).2.1); (case side3 => exact cP ((Kd.R_reads' HO345.out).2.2)); (case side4 => exact (Kd.R_reads' HO345.out).2.1); rintro e w35 ⟨rfl, hb⟩; refine ⟨_, rfl, ?_⟩; have n0_ := Aside0.mk (Kd.S_below (sP HO330.out) hb); have n1_ := Aside0.mk (Kd.R_below (rP HO333.out) hb); have n2_ := Aside0.mk (Kd.S_below (sP HO341.out) hb); have n3_ := Aside0.mk (Kd.R_below (rP HO345.out) hb); have n4_ := Aside0.mk (blkB BK323.out hb); have n5_ := Aside0.mk (blkB BK342.out hb); have n6_ := Aside0.mk (below_step (bW) hb); clear HO330; clear HO333; clear HO341; clear HO345; clear BK323; clear BK342; clear HB; have HO330 := n0_; have HO333 := n1_; have HO341 := n2_; have HO345 := n3_; have BK323 := n4_; have BK342 := n5_; have HB := n6_; clear n0_ n1_ n2_ n3_ n4_ n5_ n6_; (try clear hb); (try clear hb2); (try clear hk); (try clear hi)))
   (try simp only [Act.put, List.setIfInBounds_toArray, List.set_cons_zero, List.set_cons_succ])
   go_cut [45] (fun v45 wc => ∃ (kq : Nat) (x45_15 : Bool), v45 = .bool x45_15 ∧ Aside0 (laws_FnExactAcceptsWord.j0 kq l1 t343 x45_15 a0_0 a0_1 a0_2 l0_3 t336 t337 t338 t339 = some r) ∧ Aside0 (kq ≤ k) ∧ Aside0 (Kd.R (Kd.int .i64) 2 wc w.heap.size (fun _ => True) (.slice Ao34 t343.length co34) t343) ∧ Aside0 (Kd.S (Kd.slice 2 (Kd.int .i64)) 22 wc w.heap.size (fun k_ => some k_ ≠ ((.slice Ao34 t343.length co34) : Value).ownBlock) (.slice Ao31 t339.length co31) t339) ∧ Aside0 (wc.heap[gb323]? = some (.cells #[.int .i64 a0_0, .int .i64 a0_1, .int .i64 a0_2, (.slice A0_3 l0_3.length c0_3)] 35 (0, 0))) ∧ Aside0 (wc.heap[gb342]? = some (.cells #[.int .i64 t336, .int .i64 t337, .int .i64 t338, (.slice Ao31 t339.length co31)] 38 (0, 0))) ∧ Aside0 (Below w.heap.size w wc))
   case first =>
    have H := HC16.out
    clear HC16
    by_cases c36 : (t346 != t334) = true
    ·rw [if_pos c36] at H
     have c36b0 : (t346 != t334) = true := c36
     (try (have c36b1 : decide (t346 = t334) = false := by simpa using c36))
     (try (have c36b2 : (t346 == t334) = false := by simpa using c36))
     (try (have c36b3 : ¬ (t346 = t334) := by simpa using c36))
     clear c36
     (first | rw [c36b0] | (simp only [i64_w, i32_w]; rw [c36b0]) | skip)
     have H' := Aside0.mk H
     clear H
     go_wp2
     go_meet
     case rel => exact ⟨_, (true), (eW), H', ⟨by first | omega | exact Nat.le_refl _⟩, ⟨by (with_reducible repeat (first | apply Kd.R_alloc | apply Kd.R_drewN | apply Kd.R_drew)); exact Kd.R_mono HO345.out (fun _ hk => trivial)⟩, ⟨by (with_reducible repeat (first | apply Kd.S_alloc | apply Kd.S_drewN | apply Kd.S_drew)); exact Kd.S_mono HO341.out (fun _ hk => hk.2)⟩, ⟨(bP BK323.out)⟩, ⟨(bP BK342.out)⟩, ⟨bW⟩⟩
    ·rw [if_neg c36] at H
     have c36b0 : (t346 != t334) = false := by simpa using c36
     (try (have c36b1 : decide (t346 = t334) = true := by simpa using c36))
     (try (have c36b2 : (t346 == t334) = true := by simpa using c36))
     clear c36
     (first | rw [c36b0] | (simp only [i64_w, i32_w]; rw [c36b0]) | skip)
     have H' := Aside0.mk H
     clear H
     go_wp2
     go_meet
     case rel => exact ⟨_, ((t347 != t335)), (eW), H', ⟨by first | omega | exact Nat.le_refl _⟩, ⟨by (with_reducible repeat (first | apply Kd.R_alloc | apply Kd.R_drewN | apply Kd.R_drew)); exact Kd.R_mono HO345.out (fun _ hk => trivial)⟩, ⟨by (with_reducible repeat (first | apply Kd.S_alloc | apply Kd.S_drewN | apply Kd.S_drew)); exact Kd.S_mono HO341.out (fun _ hk => hk.2)⟩, ⟨(bP BK323.out)⟩, ⟨(bP BK342.out)⟩, ⟨bW⟩⟩
   case rest =>
    clear HC16
    try clear c1
    try clear c2
    try clear p2
    try clear c3
    try clear c3b0
    try clear c3b1
    try clear c5
    try clear c6
    try clear c6b0
    try clear c9
    try clear c16
    try clear c18
    try clear c21
    try clear c22
    try clear c29
    try clear c36
    try clear c36b0
    try clear c36b1
    try clear c36b2
    try clear hcz18_0
    try clear hcz18_1
    try clear hcz18_2
    try clear hcz18_3
    try clear hcz20_0
    try clear hcz20_1
    try clear hcz20_2
    try clear hcz20_3
    try clear hcz26_0
    try clear hcz26_1
    try clear hcz26_2
    try clear hcz26_3
    try clear hcz30_0
    try clear hcz30_1
    try clear hcz30_2
    try clear hcz30_3
    try clear hcz33_0
    try clear hcz33_1
    try clear hcz33_2
    try clear hcz33_3
    try clear hcz8_0
    try clear hcz8_1
    try clear hcz8_2
    try clear hcz8_3
    try clear hfz18_0
    try clear hfz18_1
    try clear hfz18_2
    try clear hfz18_3
    try clear hfz20_0
    try clear hfz20_1
    try clear hfz20_2
    try clear hfz20_3
    try clear hfz26_0
    try clear hfz26_1
    try clear hfz26_2
    try clear hfz26_3
    try clear hfz30_0
    try clear hfz30_1
    try clear hfz30_2
    try clear hfz30_3
    try clear hfz33_0
    try clear hfz33_1
    try clear hfz33_2
    try clear hfz33_3
    try clear hfz8_0
    try clear hfz8_1
    try clear hfz8_2
    try clear hfz8_3
    obtain ⟨kq, x45_15, rfl, HA, HJ15, HO_9, HO_343003, BK323, BK342, HB⟩ := hcut
    cases kq with
    | zero => exact absurd HA.out (by simp [laws_FnExactAcceptsWord.j0])
    | succ kj15 =>
     have H := HA.out
     clear HA
     simp only [laws_FnExactAcceptsWord.j0] at H
     by_cases c37 : x45_15 = true
     ·subst c37
      have H1 : (some false) = some r := by rw [if_pos rfl] at H; exact H
      clear H
      have H := H1
      clear H1
      exact absurd (Option.some.inj H) (by rw [HT_.out]; decide)
     ·replace c37 := Bool.eq_false_iff.mpr c37
      subst c37
      have H1 : ((laws_toAutomaton.f kj15 a0_0 a0_1 a0_2 l0_3).bind fun bt348 => ((laws_eqAutomaton.f kj15 t336 t337 t338 t339 bt348.1 bt348.2.1 bt348.2.2.1 bt348.2.2.2).bind fun t354 => (if t354 = true then ((laws_toInt64S.f kj15 l1).bind fun t355 => ((laws_eqInt64S.f kj15 t343 t355).bind fun t358 => (if t358 = true then (some true) else (some false)))) else (some false)))) = some r := by rw [if_neg (show ¬ (false = true) by decide)] at H; exact H
      clear H
      have H := H1
      clear H1
      replace H := Option.bind_eq_some_iff.mp H
      obtain ⟨⟨t348, t349, t350, t351⟩, A380, H⟩ := H
      replace H : ((laws_eqAutomaton.f kj15 t336 t337 t338 t339 t348 t349 t350 t351).bind fun t354 => (if t354 = true then ((laws_toInt64S.f kj15 l1).bind fun t355 => ((laws_eqInt64S.f kj15 t343 t355).bind fun t358 => (if t358 = true then (some true) else (some false)))) else (some false))) = some r := H
      have A38 := Aside0.mk A380
      clear A380
      replace H := Option.bind_eq_some_iff.mp H
      obtain ⟨t354, A390, H⟩ := H
      replace H : (if t354 = true then ((laws_toInt64S.f kj15 l1).bind fun t355 => ((laws_eqInt64S.f kj15 t343 t355).bind fun t358 => (if t358 = true then (some true) else (some false)))) else (some false)) = some r := H
      have A39 := Aside0.mk A390
      clear A390
      by_cases c40 : t354 = true
      ·subst c40
       have H1 : ((laws_toInt64S.f kj15 l1).bind fun t355 => ((laws_eqInt64S.f kj15 t343 t355).bind fun t358 => (if t358 = true then (some true) else (some false)))) = some r := by rw [if_pos rfl] at H; exact H
       clear H
       have H := H1
       clear H1
       replace H := Option.bind_eq_some_iff.mp H
       obtain ⟨t355, A410, H⟩ := H
       replace H : ((laws_eqInt64S.f kj15 t343 t355).bind fun t358 => (if t358 = true then (some true) else (some false))) = some r := H
       have A41 := Aside0.mk A410
       clear A410
       replace H := Option.bind_eq_some_iff.mp H
       obtain ⟨t358, A420, H⟩ := H
       replace H : (if t358 = true then (some true) else (some false)) = some r := H
       have A42 := Aside0.mk A420
       clear A420
       by_cases c43 : t358 = true
       ·subst c43
        have H1 : (some true) = some r := by rw [if_pos rfl] at H; exact H
        clear H
        have H := H1
        clear H1
        obtain rfl := Option.some.inj H
        try go_wp2
        have n0_ := Aside0.mk (Kd.R_drew HO_9.out)
        have n1_ := Aside0.mk (Kd.S_drew HO_343003.out)
        have n2_ := Aside0.mk (blk_drew BK323.out)
        have n3_ := Aside0.mk (blk_drew BK342.out)
        have n4_ := Aside0.mk (below_drew1 HB.out)
        clear HO_9
        clear HO_343003
        clear BK323
        clear BK342
        clear HB
        have HO_9 := n0_
        have HO_343003 := n1_
        have BK323 := n2_
        have BK342 := n3_
        have HB := n4_
        clear n0_ n1_ n2_ n3_ n4_
        refine start_ (n := 5) (S := fun w' => w'.cell? ⟨gb342, 0, none⟩ = some (.int .i64 t336) ∧ w'.cell? ⟨gb342, 1, none⟩ = some (.int .i64 t337) ∧ w'.cell? ⟨gb342, 2, none⟩ = some (.int .i64 t338) ∧ w'.cell? ⟨gb342, 3, none⟩ = some (.slice Ao31 t339.length co31) ∧ w'.cell? ⟨gb323, 0, none⟩ = some (.int .i64 a0_0) ∧ w'.cell? ⟨gb323, 1, none⟩ = some (.int .i64 a0_1) ∧ w'.cell? ⟨gb323, 2, none⟩ = some (.int .i64 a0_2) ∧ w'.cell? ⟨gb323, 3, none⟩ = some (.slice A0_3 l0_3.length c0_3)) (ds := []) #[false, false, false, false, false] (by kernel_rfl) rfl rfl ⟨(blk_cell BK342.out 0).trans rfl, (blk_cell BK342.out 1).trans rfl, (blk_cell BK342.out 2).trans rfl, (blk_cell BK342.out 3).trans rfl, (blk_cell BK323.out 0).trans rfl, (blk_cell BK323.out 1).trans rfl, (blk_cell BK323.out 2).trans rfl, (blk_cell BK323.out 3).trans rfl⟩ (fun hHeld => ?_)
        generalize wc.drew = w44 at HO_9 HO_343003 BK323 BK342 HB hHeld ⊢
        refine take_ (i := 0) (N := some 46) (v := ?_) (a' := ?_) #[true, false, false, false, false] rfl rfl (by kernel_rfl) (fun _ _ _ h => h) (Or.inl ⟨by rfl, ?_⟩) hHeld ?_ ?_
        rotate_left
        ·rintro w' ⟨s0, s1, s2, s3, s4, s5, s6, s7⟩
         go_simp
         with_reducible rfl
        rotate_left
        ·simp only [Act.put, List.setIfInBounds_toArray, List.set_cons_zero, List.set_cons_succ, i64_w, i32_w]
         rfl
        refine take_ (i := 1) (N := some 47) (v := ?_) (a' := ?_) #[true, true, false, false, false] rfl rfl (by kernel_rfl) (fun _ _ _ h => h) (Or.inl ⟨by rfl, ?_⟩) hHeld ?_ ?_
        rotate_left
        ·rintro w' ⟨s0, s1, s2, s3, s4, s5, s6, s7⟩
         go_simp
         with_reducible rfl
        rotate_left
        ·simp only [Act.put, List.setIfInBounds_toArray, List.set_cons_zero, List.set_cons_succ, i64_w, i32_w]
         rfl
        refine one_ (i := 2) (N := some 48) #[true, true, true, false, false] rfl rfl (by kernel_rfl) (by decide) (fun K hK => ?_)
        refine goes_ Try.func18 (by kernel_rfl) rfl #[.agg #[.int .i64 a0_0, .int .i64 a0_1, .int .i64 a0_2, .slice A0_3 l0_3.length c0_3]] (by rfl) rfl rfl (by (try simp only [List.map_toArray, List.map_cons, List.map_nil]); first | done | rfl | (simp only [List.length_drop, List.length_take]; rfl)) ?_
        with_reducible refine (laws_toAutomaton.calls kj15 a0_0 a0_1 a0_2 _ _ l0_3 t348 t349 t350 t351 _ ?side1 ?side2 A38.out).mono ?_
        (case side1 => exact cP (Kd.C_below HR0_3.out HB.out))
        (case side2 => exact HC0_3.out)
        rintro e w45 ⟨v352, rfl, ho0, hb⟩
        refine ⟨_, rfl, ?_⟩
        have n0_ := Aside0.mk (Kd.R_below (rP HO_9.out) hb)
        have n1_ := Aside0.mk (Kd.S_elder' (sP HO_343003.out) (Kd.S_base ho0) hb)
        have n2_ := Aside0.mk (Kd.S_lower (Kd.S_new' (Kd.S_new' ho0 (Kd.R_lt (rP HO_9.out))) (Kd.S_lt (sP HO_343003.out))) (below_size (bW)))
        have n3_ := Aside0.mk (blkB BK323.out hb)
        have n4_ := Aside0.mk (blkB BK342.out hb)
        have n5_ := Aside0.mk (below_step (bW) hb)
        clear HO_9
        clear HO_343003
        clear BK323
        clear BK342
        clear HB
        have HO_9 := n0_
        have HO_343003 := n1_
        have HO353 := n2_
        have BK323 := n3_
        have BK342 := n4_
        have HB := n5_
        clear n0_ n1_ n2_ n3_ n4_ n5_
        (try clear hb)
        (try clear hb2)
        (try clear hk)
        (try clear hi)
        (try clear ho0)
        obtain ⟨Ao46, co46, eo46⟩ := Kd.S_slice HO353.out
        (first | subst eo46 | (injection eo46 with f1_ f2_ f3_; have f4_ := f1_.symm; have f5_ := f3_.symm; clear f1_ f2_ f3_; subst f4_; subst f5_))
        refine hK.out _ _ ⟨(blk_cell BK342.out 0).trans rfl, (blk_cell BK342.out 1).trans rfl, (blk_cell BK342.out 2).trans rfl, (blk_cell BK342.out 3).trans rfl, (blk_cell BK323.out 0).trans rfl, (blk_cell BK323.out 1).trans rfl, (blk_cell BK323.out 2).trans rfl, (blk_cell BK323.out 3).trans rfl⟩ (fun hHeld => ?_)
        clear hK K
        refine norm_ (a' := ?_) ?_ ?_
        rotate_left
        ·show Act.put _ (some 48) _ = _
         simp only [Act.put, List.setIfInBounds_toArray, List.set_cons_zero, List.set_cons_succ, i64_w, i32_w]
         rfl
        refine one_ (i := 3) (N := some 49) #[true, true, true, true, false] rfl rfl (by kernel_rfl) (by decide) (fun K hK => ?_)
        refine goes_ Try.func20 (by kernel_rfl) rfl #[.agg #[.int .i64 t336, .int .i64 t337, .int .i64 t338, .slice Ao31 t339.length co31], .agg #[.int .i64 t348, .int .i64 t349, .int .i64 t350, .slice Ao46 t351.length co46]] (by rfl) rfl rfl (by (try simp only [List.map_toArray, List.map_cons, List.map_nil]); first | done | rfl | (simp only [List.length_drop, List.length_take]; rfl)) ?_
        with_reducible refine (laws_eqAutomaton.calls kj15 t336 t337 t338 _ _ t339 t348 t349 t350 _ _ t351 true _ ?side1 ?side2 ?side3 ?side4 A39.out).mono ?_
        (case side1 => exact cP ((Kd.S_reads' HO_343003.out).2.2))
        (case side2 => exact (Kd.S_reads' HO_343003.out).2.1)
        (case side3 => exact cP ((Kd.S_reads' HO353.out).2.2))
        (case side4 => exact (Kd.S_reads' HO353.out).2.1)
        rintro e w47 ⟨rfl, hb⟩
        refine ⟨_, rfl, ?_⟩
        have n0_ := Aside0.mk (Kd.R_below (rP HO_9.out) hb)
        have n1_ := Aside0.mk (Kd.S_below (sP HO_343003.out) hb)
        have n2_ := Aside0.mk (Kd.S_below (sP HO353.out) hb)
        have n3_ := Aside0.mk (blkB BK323.out hb)
        have n4_ := Aside0.mk (blkB BK342.out hb)
        have n5_ := Aside0.mk (below_step (bW) hb)
        clear HO_9
        clear HO_343003
        clear HO353
        clear BK323
        clear BK342
        clear HB
        have HO_9 := n0_
        have HO_343003 := n1_
        have HO353 := n2_
        have BK323 := n3_
        have BK342 := n4_
        have HB := n5_
        clear n0_ n1_ n2_ n3_ n4_ n5_
        (try clear hb)
        (try clear hb2)
        (try clear hk)
        (try clear hi)
        refine hK.out _ _ ⟨(blk_cell BK342.out 0).trans rfl, (blk_cell BK342.out 1).trans rfl, (blk_cell BK342.out 2).trans rfl, (blk_cell BK342.out 3).trans rfl, (blk_cell BK323.out 0).trans rfl, (blk_cell BK323.out 1).trans rfl, (blk_cell BK323.out 2).trans rfl, (blk_cell BK323.out 3).trans rfl⟩ (fun hHeld => ?_)
        clear hK K
        refine norm_ (a' := ?_) ?_ ?_
        rotate_left
        ·show Act.put _ (some 49) _ = _
         simp only [Act.put, List.setIfInBounds_toArray, List.set_cons_zero, List.set_cons_succ, i64_w, i32_w]
         rfl
        refine pure_ (i := 4) (N := some 50) (v := ?_) (a' := ?_) #[true, true, true, true, true] rfl rfl (by kernel_rfl) (fun _ _ _ h => h) (Or.inl ⟨by rfl, ?_⟩) ?_ ?_
        rotate_left
        ·intro w'
         go_simp
         with_reducible rfl
        rotate_left
        ·simp only [Act.put, List.setIfInBounds_toArray, List.set_cons_zero, List.set_cons_succ, i64_w, i32_w]
         rfl
        refine done_ (by kernel_rfl) ?_
        try go_wp2_with (first | ((with_reducible refine gate_callee (f := 9) rfl ?_); refine goesS (some 53) Try.func9 #[.slice A1 l1.length c1] ?_; (with_reducible refine (laws_toInt64S.calls kj15 _ _ l1 t355 _ ?side1 ?side2 A41.out).mono ?_); (case side1 => exact cP (Kd.C_below HR1.out HB.out)); (case side2 => exact HC1.out); rintro e w48 ⟨v356, rfl, ho0, hb⟩; refine ⟨_, rfl, ?_⟩; have n0_ := Aside0.mk (Kd.R_elder' (rP HO_9.out) (Kd.R_base ho0) hb); have n1_ := Aside0.mk (Kd.S_elder' (sP HO_343003.out) (Kd.R_base ho0) hb); have n2_ := Aside0.mk (Kd.S_elder' (sP HO353.out) (Kd.R_base ho0) hb); have n3_ := Aside0.mk (Kd.R_lower (Kd.R_new' ho0 (Kd.R_lt (rP HO_9.out))) (below_size (bW))); have n4_ := Aside0.mk (blkB BK323.out hb); have n5_ := Aside0.mk (blkB BK342.out hb); have n6_ := Aside0.mk (below_step (bW) hb); clear HO_9; clear HO_343003; clear HO353; clear BK323; clear BK342; clear HB; have HO_9 := n0_; have HO_343003 := n1_; have HO353 := n2_; have HO357 := n3_; have BK323 := n4_; have BK342 := n5_; have HB := n6_; clear n0_ n1_ n2_ n3_ n4_ n5_ n6_; (try clear hb); (try clear hb2); (try clear hk); (try clear hi); (try clear ho0); obtain ⟨Ao49, co49, eo49⟩ := Kd.R_slice HO357.out; subst eo49) | ((with_reducible refine gate_callee (f := 12) rfl ?_); refine goesS (some 54) Try.func12 #[.slice Ao34 t343.length co34, .slice Ao49 t355.length co49] ?_; (with_reducible refine (laws_eqInt64S.calls kj15 _ _ t343 _ _ t355 true _ ?side1 ?side2 ?side3 ?side4 A42.out).mono ?_); (case side1 => exact cP ((Kd.R_reads' HO_9.out).2.2)); (case side2 => exact (Kd.R_reads' HO_9.out).2.1); (case side3 => exact cP ((Kd.R_reads' HO357.out).2.2)); (case side4 => exact (Kd.R_reads' HO357.out).2.1); rintro e w' ⟨rfl, ⟨nd, rfl⟩⟩; refine ⟨_, rfl, ?_⟩))
        go_ret
        exact ⟨eW, bW⟩
       ·replace c43 := Bool.eq_false_iff.mpr c43
        subst c43
        have H1 : (some false) = some r := by rw [if_neg (show ¬ (false = true) by decide)] at H; exact H
        clear H
        have H := H1
        clear H1
        exact absurd (Option.some.inj H) (by rw [HT_.out]; decide)
      ·replace c40 := Bool.eq_false_iff.mpr c40
       subst c40
       have H1 : (some false) = some r := by rw [if_neg (show ¬ (false = true) by decide)] at H; exact H
       clear H
       have H := H1
       clear H1
       exact absurd (Option.some.inj H) (by rw [HT_.out]; decide)

/-! ### spec_ReadWord: function 23 -/
def spec_ReadWord.f (k : Nat) (a0_0 : Int) (a0_1 : Int) (a0_2 : Int) (l0_3 : List (List Int)) (l1 : List Int) : Option (Int × Int) := (spec_l11Code.f k a0_0 a0_1 a0_2 l0_3 l1).bind fun t360 => (if t360 = 0 then ((spec_l11Read.f k a0_0 a0_1 a0_2 l0_3 a0_1 l1).bind fun t361 => (if t361 < 0 then (some (0, 4)) else (some (t361, 0)))) else (some (0, t360)))
theorem spec_ReadWord.mono : ∀ a0 a1 a2 a3 a4 k, LeO (spec_ReadWord.f k a0 a1 a2 a3 a4) (spec_ReadWord.f (k + 1) a0 a1 a2 a3 a4) := by
 intro a0 a1 a2 a3 a4 k
 unfold spec_ReadWord.f
 repeat' first
   | (with_reducible exact spec_l11Code.mono _ _ _ _ _ _)
   | (with_reducible exact spec_l11Read.mono _ _ _ _ _ _ _)
   | (with_reducible exact LeO.refl _)
   | (with_reducible exact LeO.none _)
   | (with_reducible refine LeO.ite ?_ ?_)
   | (with_reducible refine LeO.bind ?_ (fun _ => ?_))
   | exact spec_l11Code.mono _ _ _ _ _ _
   | exact spec_l11Read.mono _ _ _ _ _ _ _
   | exact LeO.none _
   | refine LeO.ite ?_ ?_
   | refine LeO.bind ?_ (fun _ => ?_)
set_option maxHeartbeats 8000000 in
set_option maxRecDepth 100000 in
theorem spec_ReadWord.calls (k : Nat) (a0_0 : Int) (a0_1 : Int) (a0_2 : Int) (A0_3 : Option Addr) (c0_3 : Nat) (l0_3 : List (List Int)) (A1 : Option Addr) (c1 : Nat) (l1 : List Int) (r1 : Int) (r2 : Int) (w : World) (hr0_3 : Kd.C (Kd.slice 2 (Kd.int .i64)) w A0_3 l0_3.length l0_3) (hc0_3 : l0_3.length ≤ c0_3) (hr1 : Kd.C (Kd.int .i64) w A1 l1.length l1) (hc1 : l1.length ≤ c1) (h : spec_ReadWord.f k a0_0 a0_1 a0_2 l0_3 l1 = some (r1, r2)) :
  Calls Try.prog 23 #[.agg #[.int .i64 a0_0, .int .i64 a0_1, .int .i64 a0_2, .slice A0_3 l0_3.length c0_3], .slice A1 l1.length c1] w fun e w' => e = .returned (.tuple #[.int .i64 r1, .int .i64 r2]) ∧ Below w.heap.size w w' := by
 have hu38 := Try.underlying38
 have HR0_3 := Aside0.mk hr0_3
 have HC0_3 := Aside0.mk hc0_3
 clear hr0_3 hc0_3
 have HR1 := Aside0.mk hr1
 have HC1 := Aside0.mk hc1
 clear hr1 hc1
 have HB := Aside0.mk (Below.refl w.heap.size w)
 have H : ((spec_l11Code.f k a0_0 a0_1 a0_2 l0_3 l1).bind fun t360 => (if t360 = 0 then ((spec_l11Read.f k a0_0 a0_1 a0_2 l0_3 a0_1 l1).bind fun t361 => (if t361 < 0 then (some (0, 4)) else (some (t361, 0)))) else (some (0, t360)))) = some (r1, r2) := h
 clear h
 replace H := Option.bind_eq_some_iff.mp H
 obtain ⟨t360, A30, H⟩ := H
 replace H : (if t360 = 0 then ((spec_l11Read.f k a0_0 a0_1 a0_2 l0_3 a0_1 l1).bind fun t361 => (if t361 < 0 then (some (0, 4)) else (some (t361, 0)))) else (some (0, t360))) = some (r1, r2) := H
 have A3 := Aside0.mk A30
 clear A30
 by_cases c4 : t360 = 0
 ·rw [if_pos c4] at H
  have c4b0 : (t360 == 0) = true := beq_iff_eq.mpr c4
  have c4b1 : (t360 != 0) = false := bne_eq_false_iff_eq.mpr c4
  clear c4
  replace H := Option.bind_eq_some_iff.mp H
  obtain ⟨t361, A50, H⟩ := H
  replace H : (if t361 < 0 then (some (0, 4)) else (some (t361, 0))) = some (r1, r2) := H
  have A5 := Aside0.mk A50
  clear A50
  by_cases c6 : t361 < 0
  ·rw [if_pos c6] at H
   have c6b0 : decide (t361 < 0) = true := decide_eq_true c6
   clear c6
   simp only [Option.some.injEq, Prod.mk.injEq] at H
   obtain ⟨rfl, rfl⟩ := H
   go_enter Try.func23, Try.ntmps23
   go_wp2_with (first | ((with_reducible refine gate_dst (N := 2) rfl ?_); refine boxS (N := 2) (cs := #[.int .i64 a0_0, .int .i64 a0_1, .int .i64 a0_2, .slice A0_3 l0_3.length c0_3]) (t := 38) ?_; intro gb359 hg w7 hbox hb; have n0_ := Aside0.mk (below_step (bW) hb); have n1_ := Aside0.mk (hbox); have n2_ := geW (w := w) hg; have n3_ := geW (w := w) hg; clear HB; have HB := n0_; have BK359 := n1_; have GW359 := n2_; have GE359 := n3_; clear n0_ n1_ n2_ n3_; clear hb hbox hg; obtain ⟨hcz8_0, hcz8_1, hcz8_2, hcz8_3⟩ := cells4 BK359.out; obtain ⟨hfz8_0, hfz8_1, hfz8_2, hfz8_3⟩ := frz4 BK359.out) | ((with_reducible refine gate_callee (f := 43) rfl ?_); refine goesS (some 10) Try.func43 #[.agg #[.int .i64 a0_0, .int .i64 a0_1, .int .i64 a0_2, .slice A0_3 l0_3.length c0_3], .slice A1 l1.length c1] ?_; (with_reducible refine (spec_l11Code.calls k a0_0 a0_1 a0_2 _ _ l0_3 _ _ l1 t360 _ ?side1 ?side2 ?side3 ?side4 A3.out).mono ?_); (case side1 => exact cP (Kd.C_below HR0_3.out HB.out)); (case side2 => exact HC0_3.out); (case side3 => exact cP (Kd.C_below HR1.out HB.out)); (case side4 => exact HC1.out); rintro e w9 ⟨rfl, hb⟩; refine ⟨_, rfl, ?_⟩; have n0_ := Aside0.mk (blkB BK359.out hb); have n1_ := Aside0.mk (below_step (bW) hb); clear BK359; clear HB; have BK359 := n0_; have HB := n1_; clear n0_ n1_; (try clear hb); (try clear hb2); (try clear hk); (try clear hi); obtain ⟨hcz10_0, hcz10_1, hcz10_2, hcz10_3⟩ := cells4 BK359.out; obtain ⟨hfz10_0, hfz10_1, hfz10_2, hfz10_3⟩ := frz4 BK359.out) | ((with_reducible refine gate_callee (f := 49) rfl ?_); refine goesS (some 18) Try.func49 #[.agg #[.int .i64 a0_0, .int .i64 a0_1, .int .i64 a0_2, .slice A0_3 l0_3.length c0_3], .int .i64 a0_1, .slice A1 l1.length c1] ?_; (with_reducible refine (spec_l11Read.calls k a0_0 a0_1 a0_2 _ _ l0_3 a0_1 _ _ l1 t361 _ ?side1 ?side2 ?side3 ?side4 A5.out).mono ?_); (case side1 => exact cP (Kd.C_below HR0_3.out HB.out)); (case side2 => exact HC0_3.out); (case side3 => exact cP (Kd.C_below HR1.out HB.out)); (case side4 => exact HC1.out); rintro e w11 ⟨rfl, hb⟩; refine ⟨_, rfl, ?_⟩; have n0_ := Aside0.mk (blkB BK359.out hb); have n1_ := Aside0.mk (below_step (bW) hb); clear BK359; clear HB; have BK359 := n0_; have HB := n1_; clear n0_ n1_; (try clear hb); (try clear hb2); (try clear hk); (try clear hi)))
   go_ret2
   exact ⟨eW, bW⟩
  ·rw [if_neg c6] at H
   have c6b0 : decide (t361 < 0) = false := decide_eq_false c6
   clear c6
   simp only [Option.some.injEq, Prod.mk.injEq] at H
   obtain ⟨rfl, rfl⟩ := H
   go_enter Try.func23, Try.ntmps23
   go_wp2_with (first | ((with_reducible refine gate_dst (N := 2) rfl ?_); refine boxS (N := 2) (cs := #[.int .i64 a0_0, .int .i64 a0_1, .int .i64 a0_2, .slice A0_3 l0_3.length c0_3]) (t := 38) ?_; intro gb359 hg w12 hbox hb; have n0_ := Aside0.mk (below_step (bW) hb); have n1_ := Aside0.mk (hbox); have n2_ := geW (w := w) hg; have n3_ := geW (w := w) hg; clear HB; have HB := n0_; have BK359 := n1_; have GW359 := n2_; have GE359 := n3_; clear n0_ n1_ n2_ n3_; clear hb hbox hg; obtain ⟨hcz13_0, hcz13_1, hcz13_2, hcz13_3⟩ := cells4 BK359.out; obtain ⟨hfz13_0, hfz13_1, hfz13_2, hfz13_3⟩ := frz4 BK359.out) | ((with_reducible refine gate_callee (f := 43) rfl ?_); refine goesS (some 10) Try.func43 #[.agg #[.int .i64 a0_0, .int .i64 a0_1, .int .i64 a0_2, .slice A0_3 l0_3.length c0_3], .slice A1 l1.length c1] ?_; (with_reducible refine (spec_l11Code.calls k a0_0 a0_1 a0_2 _ _ l0_3 _ _ l1 t360 _ ?side1 ?side2 ?side3 ?side4 A3.out).mono ?_); (case side1 => exact cP (Kd.C_below HR0_3.out HB.out)); (case side2 => exact HC0_3.out); (case side3 => exact cP (Kd.C_below HR1.out HB.out)); (case side4 => exact HC1.out); rintro e w14 ⟨rfl, hb⟩; refine ⟨_, rfl, ?_⟩; have n0_ := Aside0.mk (blkB BK359.out hb); have n1_ := Aside0.mk (below_step (bW) hb); clear BK359; clear HB; have BK359 := n0_; have HB := n1_; clear n0_ n1_; (try clear hb); (try clear hb2); (try clear hk); (try clear hi); obtain ⟨hcz15_0, hcz15_1, hcz15_2, hcz15_3⟩ := cells4 BK359.out; obtain ⟨hfz15_0, hfz15_1, hfz15_2, hfz15_3⟩ := frz4 BK359.out) | ((with_reducible refine gate_callee (f := 49) rfl ?_); refine goesS (some 18) Try.func49 #[.agg #[.int .i64 a0_0, .int .i64 a0_1, .int .i64 a0_2, .slice A0_3 l0_3.length c0_3], .int .i64 a0_1, .slice A1 l1.length c1] ?_; (with_reducible refine (spec_l11Read.calls k a0_0 a0_1 a0_2 _ _ l0_3 a0_1 _ _ l1 t361 _ ?side1 ?side2 ?side3 ?side4 A5.out).mono ?_); (case side1 => exact cP (Kd.C_below HR0_3.out HB.out)); (case side2 => exact HC0_3.out); (case side3 => exact cP (Kd.C_below HR1.out HB.out)); (case side4 => exact HC1.out); rintro e w16 ⟨rfl, hb⟩; refine ⟨_, rfl, ?_⟩; have n0_ := Aside0.mk (blkB BK359.out hb); have n1_ := Aside0.mk (below_step (bW) hb); clear BK359; clear HB; have BK359 := n0_; have HB := n1_; clear n0_ n1_; (try clear hb); (try clear hb2); (try clear hk); (try clear hi)))
   go_ret2
   exact ⟨eW, bW⟩
 ·rw [if_neg c4] at H
  have c4b0 : (t360 == 0) = false := beq_eq_false_iff_ne.mpr c4
  have c4b1 : (t360 != 0) = true := bne_iff_ne.mpr c4
  simp only [Option.some.injEq, Prod.mk.injEq] at H
  obtain ⟨rfl, rfl⟩ := H
  go_enter Try.func23, Try.ntmps23
  go_wp2_with (first | ((with_reducible refine gate_dst (N := 2) rfl ?_); refine boxS (N := 2) (cs := #[.int .i64 a0_0, .int .i64 a0_1, .int .i64 a0_2, .slice A0_3 l0_3.length c0_3]) (t := 38) ?_; intro gb359 hg w17 hbox hb; have n0_ := Aside0.mk (below_step (bW) hb); have n1_ := Aside0.mk (hbox); have n2_ := geW (w := w) hg; have n3_ := geW (w := w) hg; clear HB; have HB := n0_; have BK359 := n1_; have GW359 := n2_; have GE359 := n3_; clear n0_ n1_ n2_ n3_; clear hb hbox hg; obtain ⟨hcz18_0, hcz18_1, hcz18_2, hcz18_3⟩ := cells4 BK359.out; obtain ⟨hfz18_0, hfz18_1, hfz18_2, hfz18_3⟩ := frz4 BK359.out) | ((with_reducible refine gate_callee (f := 43) rfl ?_); refine goesS (some 10) Try.func43 #[.agg #[.int .i64 a0_0, .int .i64 a0_1, .int .i64 a0_2, .slice A0_3 l0_3.length c0_3], .slice A1 l1.length c1] ?_; (with_reducible refine (spec_l11Code.calls k a0_0 a0_1 a0_2 _ _ l0_3 _ _ l1 t360 _ ?side1 ?side2 ?side3 ?side4 A3.out).mono ?_); (case side1 => exact cP (Kd.C_below HR0_3.out HB.out)); (case side2 => exact HC0_3.out); (case side3 => exact cP (Kd.C_below HR1.out HB.out)); (case side4 => exact HC1.out); rintro e w19 ⟨rfl, hb⟩; refine ⟨_, rfl, ?_⟩; have n0_ := Aside0.mk (blkB BK359.out hb); have n1_ := Aside0.mk (below_step (bW) hb); clear BK359; clear HB; have BK359 := n0_; have HB := n1_; clear n0_ n1_; (try clear hb); (try clear hb2); (try clear hk); (try clear hi)))
  go_ret2
  exact ⟨eW, bW⟩

/-! ### impl_ReadWord: function 24 -/
def impl_ReadWord.f (k : Nat) (a0_0 : Int) (a0_1 : Int) (a0_2 : Int) (l0_3 : List (List Int)) (l1 : List Int) : Option (Int × Int) := (impl_checkWord.f a0_0 a0_1 a0_2 l0_3 l1).bind fun t363 => (if t363 = 0 then ((impl_machineOf.f k a0_0 a0_1 a0_2 l0_3).bind fun bt364 => ((impl_machine_read.f k bt364.1 bt364.2.1 bt364.2.2.1 bt364.2.2.2 l1).bind fun t372 => (if t372 < 0 then (some (0, 4)) else (some (t372, 0))))) else (some (0, t363)))
theorem impl_ReadWord.mono : ∀ a0 a1 a2 a3 a4 k, LeO (impl_ReadWord.f k a0 a1 a2 a3 a4) (impl_ReadWord.f (k + 1) a0 a1 a2 a3 a4) := by
 intro a0 a1 a2 a3 a4 k
 unfold impl_ReadWord.f
 repeat' first
   | (with_reducible exact impl_machineOf.mono _ _ _ _ _)
   | (with_reducible exact impl_machine_read.mono _ _ _ _ _ _)
   | (with_reducible exact LeO.refl _)
   | (with_reducible exact LeO.none _)
   | (with_reducible refine LeO.ite ?_ ?_)
   | (with_reducible refine LeO.bind ?_ (fun _ => ?_))
   | exact impl_machineOf.mono _ _ _ _ _
   | exact impl_machine_read.mono _ _ _ _ _ _
   | exact LeO.none _
   | refine LeO.ite ?_ ?_
   | refine LeO.bind ?_ (fun _ => ?_)
set_option maxHeartbeats 8000000 in
set_option maxRecDepth 100000 in
theorem impl_ReadWord.calls (k : Nat) (a0_0 : Int) (a0_1 : Int) (a0_2 : Int) (A0_3 : Option Addr) (c0_3 : Nat) (l0_3 : List (List Int)) (A1 : Option Addr) (c1 : Nat) (l1 : List Int) (r1 : Int) (r2 : Int) (w : World) (hr0_3 : Kd.C (Kd.slice 2 (Kd.int .i64)) w A0_3 l0_3.length l0_3) (hc0_3 : l0_3.length ≤ c0_3) (hr1 : Kd.C (Kd.int .i64) w A1 l1.length l1) (hc1 : l1.length ≤ c1) (h : impl_ReadWord.f k a0_0 a0_1 a0_2 l0_3 l1 = some (r1, r2)) :
  Calls Try.prog 24 #[.agg #[.int .i64 a0_0, .int .i64 a0_1, .int .i64 a0_2, .slice A0_3 l0_3.length c0_3], .slice A1 l1.length c1] w fun e w' => e = .returned (.tuple #[.int .i64 r1, .int .i64 r2]) ∧ Below w.heap.size w w' := by
 have hu38 := Try.underlying38
 have HR0_3 := Aside0.mk hr0_3
 have HC0_3 := Aside0.mk hc0_3
 clear hr0_3 hc0_3
 have HR1 := Aside0.mk hr1
 have HC1 := Aside0.mk hc1
 clear hr1 hc1
 have HB := Aside0.mk (Below.refl w.heap.size w)
 have H : ((impl_checkWord.f a0_0 a0_1 a0_2 l0_3 l1).bind fun t363 => (if t363 = 0 then ((impl_machineOf.f k a0_0 a0_1 a0_2 l0_3).bind fun bt364 => ((impl_machine_read.f k bt364.1 bt364.2.1 bt364.2.2.1 bt364.2.2.2 l1).bind fun t372 => (if t372 < 0 then (some (0, 4)) else (some (t372, 0))))) else (some (0, t363)))) = some (r1, r2) := h
 clear h
 replace H := Option.bind_eq_some_iff.mp H
 obtain ⟨t363, A30, H⟩ := H
 replace H : (if t363 = 0 then ((impl_machineOf.f k a0_0 a0_1 a0_2 l0_3).bind fun bt364 => ((impl_machine_read.f k bt364.1 bt364.2.1 bt364.2.2.1 bt364.2.2.2 l1).bind fun t372 => (if t372 < 0 then (some (0, 4)) else (some (t372, 0))))) else (some (0, t363))) = some (r1, r2) := H
 have A3 := Aside0.mk A30
 clear A30
 by_cases c4 : t363 = 0
 ·rw [if_pos c4] at H
  have c4b0 : (t363 == 0) = true := beq_iff_eq.mpr c4
  have c4b1 : (t363 != 0) = false := bne_eq_false_iff_eq.mpr c4
  clear c4
  replace H := Option.bind_eq_some_iff.mp H
  obtain ⟨⟨t364, t365, t366, t369⟩, A50, H⟩ := H
  replace H : ((impl_machine_read.f k t364 t365 t366 t369 l1).bind fun t372 => (if t372 < 0 then (some (0, 4)) else (some (t372, 0)))) = some (r1, r2) := H
  have A5 := Aside0.mk A50
  clear A50
  replace H := Option.bind_eq_some_iff.mp H
  obtain ⟨t372, A60, H⟩ := H
  replace H : (if t372 < 0 then (some (0, 4)) else (some (t372, 0))) = some (r1, r2) := H
  have A6 := Aside0.mk A60
  clear A60
  by_cases c7 : t372 < 0
  ·rw [if_pos c7] at H
   have c7b0 : decide (t372 < 0) = true := decide_eq_true c7
   clear c7
   simp only [Option.some.injEq, Prod.mk.injEq] at H
   obtain ⟨rfl, rfl⟩ := H
   go_enter Try.func24, Try.ntmps24
   go_wp2_with (first | ((with_reducible refine gate_dst (N := 2) rfl ?_); refine boxS (N := 2) (cs := #[.int .i64 a0_0, .int .i64 a0_1, .int .i64 a0_2, .slice A0_3 l0_3.length c0_3]) (t := 38) ?_; intro gb362 hg w8 hbox hb; have n0_ := Aside0.mk (below_step (bW) hb); have n1_ := Aside0.mk (hbox); have n2_ := geW (w := w) hg; have n3_ := geW (w := w) hg; clear HB; have HB := n0_; have BK362 := n1_; have GW362 := n2_; have GE362 := n3_; clear n0_ n1_ n2_ n3_; clear hb hbox hg; obtain ⟨hcz9_0, hcz9_1, hcz9_2, hcz9_3⟩ := cells4 BK362.out; obtain ⟨hfz9_0, hfz9_1, hfz9_2, hfz9_3⟩ := frz4 BK362.out) | ((with_reducible refine gate_callee (f := 45) rfl ?_); refine goesS (some 10) Try.func45 #[.agg #[.int .i64 a0_0, .int .i64 a0_1, .int .i64 a0_2, .slice A0_3 l0_3.length c0_3], .slice A1 l1.length c1] ?_; (with_reducible refine (impl_checkWord.calls a0_0 a0_1 a0_2 _ _ l0_3 _ _ l1 t363 _ ?side1 ?side2 ?side3 ?side4 A3.out).mono ?_); (case side1 => exact cP (Kd.C_below HR0_3.out HB.out)); (case side2 => exact HC0_3.out); (case side3 => exact cP (Kd.C_below HR1.out HB.out)); (case side4 => exact HC1.out); rintro e w10 ⟨rfl, hb⟩; refine ⟨_, rfl, ?_⟩; have n0_ := Aside0.mk (blkB BK362.out hb); have n1_ := Aside0.mk (below_step (bW) hb); clear BK362; clear HB; have BK362 := n0_; have HB := n1_; clear n0_ n1_; (try clear hb); (try clear hb2); (try clear hk); (try clear hi); obtain ⟨hcz11_0, hcz11_1, hcz11_2, hcz11_3⟩ := cells4 BK362.out; obtain ⟨hfz11_0, hfz11_1, hfz11_2, hfz11_3⟩ := frz4 BK362.out) | ((with_reducible refine gate_callee (f := 46) rfl ?_); refine goesS (some 15) Try.func46 #[.agg #[.int .i64 a0_0, .int .i64 a0_1, .int .i64 a0_2, .slice A0_3 l0_3.length c0_3]] ?_; (with_reducible refine (impl_machineOf.calls k a0_0 a0_1 a0_2 (fun k_ => k_ < w.heap.size) _ _ l0_3 t364 t365 t366 t369 _ ?side1 A5.out).mono ?_); (case side1 => exact Kd.V_mk HC0_3.out (Kd.F_below (Kd.C_F (Kd.heap_slice 2 (Kd.heap_int .i64)) HR0_3.out) (bW))); rintro e w12 ⟨v367, v370, rfl, ho0, ho1, hb⟩; refine ⟨_, rfl, ?_⟩; have n0_ := Aside0.mk (Kd.R_lower (Kd.R_mono (ok' := fun k_ => True) ho0 (fun _ hk_ => trivial)) (below_size (bW))); have n1_ := Aside0.mk (Kd.V_lower (Kd.V_mono (ok' := fun k_ => some k_ ≠ (v367 : Value).ownBlock ∧ k_ ≠ gb362) ho1 (fun k_ hk_ => ⟨hk_.2, Or.elim hk_.1 (fun hs_ => fun e_ => Nat.not_le.2 hs_ (by rw [e_]; exact GW362.out)) (fun hn_ => (Kd.freshB (g := gb362) (o := .cells #[.int .i64 a0_0, .int .i64 a0_1, .int .i64 a0_2, .slice A0_3 l0_3.length c0_3] 38 (0, 0)) (bP BK362.out) k_ hn_))⟩)) (below_size (bW))); have n2_ := Aside0.mk (blkB BK362.out hb); have n3_ := Aside0.mk (below_step (bW) hb); clear BK362; clear HB; have HO368 := n0_; have HO371 := n1_; have BK362 := n2_; have HB := n3_; clear n0_ n1_ n2_ n3_; (try clear hb); (try clear hb2); (try clear hk); (try clear hi); (try clear ho0); (try clear ho1); obtain ⟨Ao13, co13, eo13⟩ := Kd.R_slice HO368.out; subst eo13; obtain ⟨Ao14, co14, eo14⟩ := Kd.V_slice HO371.out; subst eo14) | ((with_reducible refine gate_callee (f := 48) rfl ?_); refine goesS (some 17) Try.func48 #[.agg #[.int .i64 t364, .int .i64 t365, .slice Ao13 t366.length co13, .slice Ao14 t369.length co14], .slice A1 l1.length c1] ?_; (with_reducible refine (impl_machine_read.calls k t364 t365 _ _ t366 _ _ t369 _ _ l1 t372 _ ?side1 ?side2 ?side3 ?side4 ?side5 ?side6 A6.out).mono ?_); (case side1 => exact cP ((Kd.R_reads' HO368.out).2.2)); (case side2 => exact (Kd.R_reads' HO368.out).2.1); (case side3 => exact cP ((Kd.V_reads' HO371.out).2.2)); (case side4 => exact (Kd.V_reads' HO371.out).2.1); (case side5 => exact cP (Kd.C_below HR1.out HB.out)); (case side6 => exact HC1.out); rintro e w15 ⟨rfl, hb⟩; refine ⟨_, rfl, ?_⟩; have n0_ := Aside0.mk (Kd.R_below (rP HO368.out) hb); have n1_ := Aside0.mk (Kd.V_below (by (with_reducible repeat (first | apply Kd.V_alloc | apply Kd.V_drewN | apply Kd.V_drew)); exact HO371.out) hb); have n2_ := Aside0.mk (blkB BK362.out hb); have n3_ := Aside0.mk (below_step (bW) hb); clear HO368; clear HO371; clear BK362; clear HB; have HO368 := n0_; have HO371 := n1_; have BK362 := n2_; have HB := n3_; clear n0_ n1_ n2_ n3_; (try clear hb); (try clear hb2); (try clear hk); (try clear hi)))
   go_ret2
   exact ⟨eW, bW⟩
  ·rw [if_neg c7] at H
   have c7b0 : decide (t372 < 0) = false := decide_eq_false c7
   clear c7
   simp only [Option.some.injEq, Prod.mk.injEq] at H
   obtain ⟨rfl, rfl⟩ := H
   go_enter Try.func24, Try.ntmps24
   go_wp2_with (first | ((with_reducible refine gate_dst (N := 2) rfl ?_); refine boxS (N := 2) (cs := #[.int .i64 a0_0, .int .i64 a0_1, .int .i64 a0_2, .slice A0_3 l0_3.length c0_3]) (t := 38) ?_; intro gb362 hg w16 hbox hb; have n0_ := Aside0.mk (below_step (bW) hb); have n1_ := Aside0.mk (hbox); have n2_ := geW (w := w) hg; have n3_ := geW (w := w) hg; clear HB; have HB := n0_; have BK362 := n1_; have GW362 := n2_; have GE362 := n3_; clear n0_ n1_ n2_ n3_; clear hb hbox hg; obtain ⟨hcz17_0, hcz17_1, hcz17_2, hcz17_3⟩ := cells4 BK362.out; obtain ⟨hfz17_0, hfz17_1, hfz17_2, hfz17_3⟩ := frz4 BK362.out) | ((with_reducible refine gate_callee (f := 45) rfl ?_); refine goesS (some 10) Try.func45 #[.agg #[.int .i64 a0_0, .int .i64 a0_1, .int .i64 a0_2, .slice A0_3 l0_3.length c0_3], .slice A1 l1.length c1] ?_; (with_reducible refine (impl_checkWord.calls a0_0 a0_1 a0_2 _ _ l0_3 _ _ l1 t363 _ ?side1 ?side2 ?side3 ?side4 A3.out).mono ?_); (case side1 => exact cP (Kd.C_below HR0_3.out HB.out)); (case side2 => exact HC0_3.out); (case side3 => exact cP (Kd.C_below HR1.out HB.out)); (case side4 => exact HC1.out); rintro e w18 ⟨rfl, hb⟩; refine ⟨_, rfl, ?_⟩; have n0_ := Aside0.mk (blkB BK362.out hb); have n1_ := Aside0.mk (below_step (bW) hb); clear BK362; clear HB; have BK362 := n0_; have HB := n1_; clear n0_ n1_; (try clear hb); (try clear hb2); (try clear hk); (try clear hi); obtain ⟨hcz19_0, hcz19_1, hcz19_2, hcz19_3⟩ := cells4 BK362.out; obtain ⟨hfz19_0, hfz19_1, hfz19_2, hfz19_3⟩ := frz4 BK362.out) | ((with_reducible refine gate_callee (f := 46) rfl ?_); refine goesS (some 15) Try.func46 #[.agg #[.int .i64 a0_0, .int .i64 a0_1, .int .i64 a0_2, .slice A0_3 l0_3.length c0_3]] ?_; (with_reducible refine (impl_machineOf.calls k a0_0 a0_1 a0_2 (fun k_ => k_ < w.heap.size) _ _ l0_3 t364 t365 t366 t369 _ ?side1 A5.out).mono ?_); (case side1 => exact Kd.V_mk HC0_3.out (Kd.F_below (Kd.C_F (Kd.heap_slice 2 (Kd.heap_int .i64)) HR0_3.out) (bW))); rintro e w20 ⟨v367, v370, rfl, ho0, ho1, hb⟩; refine ⟨_, rfl, ?_⟩; have n0_ := Aside0.mk (Kd.R_lower (Kd.R_mono (ok' := fun k_ => True) ho0 (fun _ hk_ => trivial)) (below_size (bW))); have n1_ := Aside0.mk (Kd.V_lower (Kd.V_mono (ok' := fun k_ => some k_ ≠ (v367 : Value).ownBlock ∧ k_ ≠ gb362) ho1 (fun k_ hk_ => ⟨hk_.2, Or.elim hk_.1 (fun hs_ => fun e_ => Nat.not_le.2 hs_ (by rw [e_]; exact GW362.out)) (fun hn_ => (Kd.freshB (g := gb362) (o := .cells #[.int .i64 a0_0, .int .i64 a0_1, .int .i64 a0_2, .slice A0_3 l0_3.length c0_3] 38 (0, 0)) (bP BK362.out) k_ hn_))⟩)) (below_size (bW))); have n2_ := Aside0.mk (blkB BK362.out hb); have n3_ := Aside0.mk (below_step (bW) hb); clear BK362; clear HB; have HO368 := n0_; have HO371 := n1_; have BK362 := n2_; have HB := n3_; clear n0_ n1_ n2_ n3_; (try clear hb); (try clear hb2); (try clear hk); (try clear hi); (try clear ho0); (try clear ho1); obtain ⟨Ao21, co21, eo21⟩ := Kd.R_slice HO368.out; subst eo21; obtain ⟨Ao22, co22, eo22⟩ := Kd.V_slice HO371.out; subst eo22) | ((with_reducible refine gate_callee (f := 48) rfl ?_); refine goesS (some 17) Try.func48 #[.agg #[.int .i64 t364, .int .i64 t365, .slice Ao21 t366.length co21, .slice Ao22 t369.length co22], .slice A1 l1.length c1] ?_; (with_reducible refine (impl_machine_read.calls k t364 t365 _ _ t366 _ _ t369 _ _ l1 t372 _ ?side1 ?side2 ?side3 ?side4 ?side5 ?side6 A6.out).mono ?_); (case side1 => exact cP ((Kd.R_reads' HO368.out).2.2)); (case side2 => exact (Kd.R_reads' HO368.out).2.1); (case side3 => exact cP ((Kd.V_reads' HO371.out).2.2)); (case side4 => exact (Kd.V_reads' HO371.out).2.1); (case side5 => exact cP (Kd.C_below HR1.out HB.out)); (case side6 => exact HC1.out); rintro e w23 ⟨rfl, hb⟩; refine ⟨_, rfl, ?_⟩; have n0_ := Aside0.mk (Kd.R_below (rP HO368.out) hb); have n1_ := Aside0.mk (Kd.V_below (by (with_reducible repeat (first | apply Kd.V_alloc | apply Kd.V_drewN | apply Kd.V_drew)); exact HO371.out) hb); have n2_ := Aside0.mk (blkB BK362.out hb); have n3_ := Aside0.mk (below_step (bW) hb); clear HO368; clear HO371; clear BK362; clear HB; have HO368 := n0_; have HO371 := n1_; have BK362 := n2_; have HB := n3_; clear n0_ n1_ n2_ n3_; (try clear hb); (try clear hb2); (try clear hk); (try clear hi)))
   go_ret2
   exact ⟨eW, bW⟩
 ·rw [if_neg c4] at H
  have c4b0 : (t363 == 0) = false := beq_eq_false_iff_ne.mpr c4
  have c4b1 : (t363 != 0) = true := bne_iff_ne.mpr c4
  simp only [Option.some.injEq, Prod.mk.injEq] at H
  obtain ⟨rfl, rfl⟩ := H
  go_enter Try.func24, Try.ntmps24
  go_wp2_with (first | ((with_reducible refine gate_dst (N := 2) rfl ?_); refine boxS (N := 2) (cs := #[.int .i64 a0_0, .int .i64 a0_1, .int .i64 a0_2, .slice A0_3 l0_3.length c0_3]) (t := 38) ?_; intro gb362 hg w24 hbox hb; have n0_ := Aside0.mk (below_step (bW) hb); have n1_ := Aside0.mk (hbox); have n2_ := geW (w := w) hg; have n3_ := geW (w := w) hg; clear HB; have HB := n0_; have BK362 := n1_; have GW362 := n2_; have GE362 := n3_; clear n0_ n1_ n2_ n3_; clear hb hbox hg; obtain ⟨hcz25_0, hcz25_1, hcz25_2, hcz25_3⟩ := cells4 BK362.out; obtain ⟨hfz25_0, hfz25_1, hfz25_2, hfz25_3⟩ := frz4 BK362.out) | ((with_reducible refine gate_callee (f := 45) rfl ?_); refine goesS (some 10) Try.func45 #[.agg #[.int .i64 a0_0, .int .i64 a0_1, .int .i64 a0_2, .slice A0_3 l0_3.length c0_3], .slice A1 l1.length c1] ?_; (with_reducible refine (impl_checkWord.calls a0_0 a0_1 a0_2 _ _ l0_3 _ _ l1 t363 _ ?side1 ?side2 ?side3 ?side4 A3.out).mono ?_); (case side1 => exact cP (Kd.C_below HR0_3.out HB.out)); (case side2 => exact HC0_3.out); (case side3 => exact cP (Kd.C_below HR1.out HB.out)); (case side4 => exact HC1.out); rintro e w26 ⟨rfl, hb⟩; refine ⟨_, rfl, ?_⟩; have n0_ := Aside0.mk (blkB BK362.out hb); have n1_ := Aside0.mk (below_step (bW) hb); clear BK362; clear HB; have BK362 := n0_; have HB := n1_; clear n0_ n1_; (try clear hb); (try clear hb2); (try clear hk); (try clear hi)))
  go_ret2
  exact ⟨eW, bW⟩

end Go.Proofs.Ytcibmpomidhgiaa.P
end M0
section M1
namespace Go.Proofs.Ytcibmpomidhgiaa.Op
open Go.RowKit Go.Proofs.YtcibmpomidhgiaaW.PrintWords Go.Proofs.YtcibmpomidhgiaaW.PrintLast Go.Proofs.YtcibmpomidhgiaaW.PrintMore
/-- What is read at type t lies in memory as kind d says. -/
def Opens {α : Type} (P : Program) (t : TypeId) (d : Kd α) (ok : α → Prop) : Prop :=
  ∀ (H : Type) (enc : TypeId × Value → H) (w : World) (base : Nat) (held : Bool) (fuel : Nat) (cs : List Value) (x : DataW H × List MemPlace),
    DataW.trod enc P w base (fun _ => true) held fuel t cs = some x → ∃ a, d.K w a cs ∧ ok a
theorem opens_int {P : Program} {t : TypeId} {k : IntKind} (ht : P.underlying t = some (.int k)) : Opens P t (Kd.int k) (fun n => (Lit.int k n).wf = true) := by
  intro H enc w base held fuel cs x h
  obtain ⟨n, rfl, _, hw⟩ := DataW.trod_int ht h
  exact ⟨n, rfl, hw⟩
theorem opens_slice {α : Type} {P : Program} {t e : TypeId} {d : Kd α} {ok : α → Prop} (ht : P.underlying t = some (.slice e)) (hc : P.cellsOf e = d.sz) (he : Opens P e d ok) :
    Opens P t (Kd.slice e d) (fun xs => xs.length ≤ maxLen ∧ ∀ x ∈ xs, ok x) := by
  intro H enc w base held fuel cs x h
  rcases DataW.trod_slice ht h with ⟨rfl, _⟩ | ⟨a, len, cap, elems, rest, n, _, rfl, _, hb, hl, hm, hlen, hel, _, _⟩
  · exact ⟨[], ⟨none, 0, rfl, Nat.le_refl _, rfl, by simp, fun h => absurd h (by simp)⟩, by simp, by simp⟩
  · have each : ∀ i, i < len → ∃ y : α × List Value, y.2.length = d.sz ∧ d.K w y.1 y.2 ∧ ok y.1 ∧ ∀ j u, y.2[j]? = some u → w.cell? (a.add (i * d.sz + j)) = some u := by
      intro i hi
      have h1 := hel i hi
      rw [List.getElem?_eq_getElem (by omega), Option.bind_eq_some_iff] at h1
      obtain ⟨cs', h2, h3⟩ := h1
      obtain ⟨y, hk, ho⟩ := he _ _ _ _ _ _ _ _ h3
      obtain ⟨_, h5, h6⟩ := World.cells?_some h2
      refine ⟨(y, cs'), h5.trans hc, hk, ho, fun j u hj => ?_⟩
      have hjl : j < P.cellsOf e := by rw [← h5]; exact (List.getElem?_eq_some_iff.1 hj).1
      have h7 := h6 j hjl
      rw [hj, hc] at h7
      rw [← Addr.add_add]
      exact h7
    have hy := fun i : Fin len => Classical.choose_spec (each i.1 i.2)
    generalize hY : (fun i : Fin len => Classical.choose (each i.1 i.2)) = y at hy
    have hy' : ∀ i : Fin len, (y i).2.length = d.sz ∧ d.K w (y i).1 (y i).2 ∧ ok (y i).1 ∧ ∀ j u, (y i).2[j]? = some u → w.cell? (a.add (i.1 * d.sz + j)) = some u := by
      intro i; rw [← hY]; exact hy i
    clear hy hY
    have hln : (List.ofFn fun i => (y i).1).length = len := by simp
    refine ⟨List.ofFn fun i => (y i).1, ⟨some a, cap, by rw [hln], by rw [hln]; exact hl, ?_⟩, by rw [hln]; omega, ?_⟩
    · refine ⟨rfl, by rw [hln]; unfold maxLen at hm; omega, fun _ => ⟨a, rfl, fun j p hj => ?_⟩⟩
      have hjl : j < len := by rw [← hln]; exact (List.getElem?_eq_some_iff.1 hj).1
      rw [List.getElem?_ofFn, dif_pos hjl, Option.some.injEq] at hj
      subst hj
      obtain ⟨q1, q2, _, q4⟩ := hy' ⟨j, hjl⟩
      exact ⟨(y ⟨j, hjl⟩).2, q1, q2, fun i u hi => q4 i u hi⟩
    · intro x hx
      rw [List.mem_ofFn] at hx
      obtain ⟨i, rfl⟩ := hx
      exact (hy' i).2.2.1
/-- An argument that is a slice. -/
theorem open_row {α : Type} {P : Program} {t e : TypeId} {d : Kd α} {ok : List α → Prop} {H : Type} {enc : TypeId × Value → H} {w : World} {base fuel : Nat} {held : Bool} {v : Value} {x : DataW H × List MemPlace}
    (h : DataW.trod enc P w base (fun _ => true) held fuel t [v] = some x) (hs : Opens P t (Kd.slice e d) ok) : ∃ A c xs, v = .slice A xs.length c ∧ xs.length ≤ c ∧ d.C w A xs.length xs ∧ ok xs := by
  obtain ⟨xs, ⟨A, c, hv, hl, hr⟩, ho⟩ := hs _ _ _ _ _ _ _ _ h
  exact ⟨A, c, xs, by simpa using hv, hl, hr, ho⟩
end Go.Proofs.Ytcibmpomidhgiaa.Op
end M1
section M2
namespace Go.Proofs.Ytcibmpomidhgiaa.U
open Go.RowKit Go.Proofs.YtcibmpomidhgiaaW.PrintWords Go.Proofs.YtcibmpomidhgiaaW.PrintLast
/-! Small laws of numbers and lists for the plain part: what a printed loop comes to. -/
theorem w64 {n : Int} (h0 : -9223372036854775808 ≤ n) (h1 : n ≤ 9223372036854775807) : wrap64 n = n := by unfold wrap64; omega
theorem w64s {n : Nat} (h : n < 9223372036854775807) : wrap64 ((n : Int) + 1) = ((n + 1 : Nat) : Int) := by unfold wrap64; omega
theorem rd_lt {l : List Int} {i : Nat} (h : i < l.length) : rd l (i : Int) = l[i] := by
  show l.getD i 0 = _; rw [List.getD_eq_getElem?_getD, List.getElem?_eq_getElem h]; rfl
theorem rdOf_lt {α : Type} {d : α} {l : List α} {i : Nat} (h : i < l.length) : rdOf d l (i : Int) = l[i] := by
  show l.getD i d = _; rw [List.getD_eq_getElem?_getD, List.getElem?_eq_getElem h]; rfl
/-- One round more, the loop's own equation still to be unfolded. -/
theorem Ev.round {α : Type} {g : Nat → Option α} {r : α} (h : Ev (fun k => g (k + 1)) r) : Ev g r := by
  obtain ⟨K, h⟩ := h
  refine ⟨K + 1, fun n hn => ?_⟩
  obtain ⟨m, rfl⟩ : ∃ m, n = m + 1 := ⟨n - 1, by omega⟩
  exact h m (by omega)
theorem Ev.here {α β : Type} {g : Option α} {f : Nat → α → Option β} {a : α} {r : β} (h : g = some a) (k : Ev (fun n => f n a) r) : Ev (fun n => g.bind (f n)) r := by
  subst h; exact k
theorem Ev.yes {α : Type} {c : Prop} [Decidable c] {A B : Nat → Option α} {r : α} (h : c) (k : Ev A r) : Ev (fun n => if c then A n else B n) r := Ev.congr (fun _ => if_pos h) k
theorem Ev.no {α : Type} {c : Prop} [Decidable c] {A B : Nat → Option α} {r : α} (h : ¬ c) (k : Ev B r) : Ev (fun n => if c then A n else B n) r := Ev.congr (fun _ => if_neg h) k
/-- An upward loop over an index: what it comes to from i on, if what one round does is known. -/
theorem Ev.up {σ ρ : Type} (L : Nat → σ → Int → Option ρ) (n : Nat) (R : Nat → σ → ρ) (I : Nat → σ → Prop)
    (hend : ∀ s, I n s → Ev (fun k => L k s (n : Int)) (R n s))
    (hstep : ∀ i s, i < n → I i s → (∀ s', I (i + 1) s' → Ev (fun k => L k s' ((i + 1 : Nat) : Int)) (R (i + 1) s')) → Ev (fun k => L k s (i : Int)) (R i s)) :
    ∀ i s, i ≤ n → I i s → Ev (fun k => L k s (i : Int)) (R i s) := by
  intro i s hi hI
  obtain ⟨d, hd⟩ : ∃ d, n - i = d := ⟨_, rfl⟩
  induction d generalizing i s with
  | zero =>
    have : i = n := by omega
    subst this
    exact hend s hI
  | succ d ih => exact hstep i s (by omega) hI (fun s' h' => ih (i + 1) s' (by omega) h' (by omega))
end Go.Proofs.Ytcibmpomidhgiaa.U
end M2
section M3
namespace Go.Proofs.Ytcibmpomidhgiaa.U
open Go.RowKit Go.Proofs.Ytcibmpomidhgiaa.P Go.Proofs.YtcibmpomidhgiaaW.PrintWords Go.Proofs.YtcibmpomidhgiaaW.PrintLast
/-! What the law's own helpers come to: copies, equality, sizes. -/
theorem toS (x0 : List Int) (hn : x0.length ≤ 35184372088832) : Ev (fun k => laws_toInt64S.f k x0) x0 := by
  have key := Ev.up (fun k s i => laws_toInt64S.l0 k x0 s i) x0.length (fun _ _ => x0) (fun i s => s.length = x0.length ∧ ∀ j, j < i → s[j]? = x0[j]?)
    (fun s ⟨h1, h2⟩ => by
      refine Ev.round ?_
      simp only [laws_toInt64S.l0]
      refine Ev.no (by omega) ?_
      have : s = x0 := List.ext_getElem? fun j => by
        by_cases hj : j < x0.length
        · exact h2 j hj
        · rw [List.getElem?_eq_none (by omega), List.getElem?_eq_none (by omega)]
      rw [this]
      exact Ev.now _)
    (fun i s hi ⟨h1, h2⟩ ih => by
      refine Ev.round ?_
      simp only [laws_toInt64S.l0]
      refine Ev.yes (by omega) (Ev.yes (by omega) (Ev.yes (by omega) ?_))
      rw [w64s (by omega)]
      refine ih _ ⟨by simp [h1], fun j hj => ?_⟩
      rw [Int.toNat_natCast, rd_lt hi]
      by_cases e : j = i
      · subst e
        rw [List.getElem?_set_self (by omega), List.getElem?_eq_getElem hi]
      · rw [List.getElem?_set_ne (by omega)]
        exact h2 j (by omega))
  unfold laws_toInt64S.f
  refine Ev.yes (by omega) (Ev.yes (by omega) ?_)
  have := key 0 (List.replicate x0.length 0) (by omega) ⟨by simp, fun j hj => absurd hj (by omega)⟩
  simpa using this
theorem toSS (x0 : List (List Int)) (hn : x0.length ≤ 1048576) (hr : ∀ x ∈ x0, x.length ≤ 1048576) : Ev (fun k => laws_toInt64SS.f k x0) x0 := by
  have key := Ev.up (fun k s i => laws_toInt64SS.l0 k x0 s i) x0.length (fun _ _ => x0) (fun i s => s.length = x0.length ∧ ∀ j, j < i → s[j]? = x0[j]?)
    (fun s ⟨h1, h2⟩ => by
      refine Ev.round ?_
      simp only [laws_toInt64SS.l0]
      refine Ev.no (by omega) ?_
      have : s = x0 := List.ext_getElem? fun j => by
        by_cases hj : j < x0.length
        · exact h2 j hj
        · rw [List.getElem?_eq_none (by omega), List.getElem?_eq_none (by omega)]
      rw [this]
      exact Ev.now _)
    (fun i s hi ⟨h1, h2⟩ ih => by
      refine Ev.round ?_
      simp only [laws_toInt64SS.l0]
      refine Ev.yes (by omega) (Ev.yes (by omega) ?_)
      have hg : rd_L1 x0 (i : Int) = x0[i] := rdOf_lt (d := []) hi
      rw [hg]
      refine Ev.bind (toS x0[i] (by have := hr _ (List.getElem_mem hi); omega)) (Ev.yes (by omega) ?_)
      rw [w64s (by omega)]
      refine ih _ ⟨by simp [h1], fun j hj => ?_⟩
      rw [Int.toNat_natCast]
      by_cases e : j = i
      · subst e
        rw [List.getElem?_set_self (by omega), List.getElem?_eq_getElem hi]
      · rw [List.getElem?_set_ne (by omega)]
        exact h2 j (by omega))
  unfold laws_toInt64SS.f
  refine Ev.yes (by omega) (Ev.yes (by omega) ?_)
  have := key 0 (List.replicate x0.length []) (by omega) ⟨by simp, fun j hj => absurd hj (by omega)⟩
  simpa using this
theorem eqS (a b : List Int) (hn : a.length ≤ 9223372036854775806) : Ev (fun k => laws_eqInt64S.f k a b) (decide (a = b)) := by
  unfold laws_eqInt64S.f
  by_cases hl : a.length = b.length
  · refine Ev.yes (by omega) ?_
    have key := Ev.up (fun k (_ : Unit) i => laws_eqInt64S.l0 k a b i) a.length (fun _ _ => decide (a = b)) (fun i _ => ∀ j, j < i → a[j]? = b[j]?)
      (fun _ h2 => by
        refine Ev.round ?_
        simp only [laws_eqInt64S.l0]
        refine Ev.no (by omega) ?_
        have : a = b := List.ext_getElem? fun j => by
          by_cases hj : j < a.length
          · exact h2 j hj
          · rw [List.getElem?_eq_none (by omega), List.getElem?_eq_none (by omega)]
        rw [decide_eq_true this]
        exact Ev.now _)
      (fun i _ hi h2 ih => by
        refine Ev.round ?_
        simp only [laws_eqInt64S.l0]
        refine Ev.yes (by omega) (Ev.yes (by omega) (Ev.yes (by omega) ?_))
        rw [rd_lt hi, rd_lt (by omega : i < b.length), w64s (by omega)]
        by_cases e : a[i] = b[i]
        · refine Ev.yes e (ih () fun j hj => ?_)
          by_cases e' : j = i
          · subst e'
            rw [List.getElem?_eq_getElem hi, List.getElem?_eq_getElem (by omega), e]
          · exact h2 j (by omega)
        · refine Ev.no e ?_
          rw [decide_eq_false (fun h => e (by subst h; rfl))]
          exact Ev.now _)
    have := key 0 () (by omega) (fun j hj => absurd hj (by omega))
    simpa using this
  · refine Ev.no (by omega) ?_
    rw [decide_eq_false (fun h => hl (by rw [h]))]
    exact Ev.now _
theorem eqSS (a b : List (List Int)) (hn : a.length ≤ 9223372036854775806) (hr : ∀ x ∈ a, x.length ≤ 9223372036854775806) : Ev (fun k => laws_eqInt64SS.f k a b) (decide (a = b)) := by
  unfold laws_eqInt64SS.f
  by_cases hl : a.length = b.length
  · refine Ev.yes (by omega) ?_
    have key := Ev.up (fun k (_ : Unit) i => laws_eqInt64SS.l0 k a b i) a.length (fun _ _ => decide (a = b)) (fun i _ => ∀ j, j < i → a[j]? = b[j]?)
      (fun _ h2 => by
        refine Ev.round ?_
        simp only [laws_eqInt64SS.l0]
        refine Ev.no (by omega) ?_
        have : a = b := List.ext_getElem? fun j => by
          by_cases hj : j < a.length
          · exact h2 j hj
          · rw [List.getElem?_eq_none (by omega), List.getElem?_eq_none (by omega)]
        rw [decide_eq_true this]
        exact Ev.now _)
      (fun i _ hi h2 ih => by
        refine Ev.round ?_
        simp only [laws_eqInt64SS.l0]
        refine Ev.yes (by omega) (Ev.yes (by omega) (Ev.yes (by omega) ?_))
        have hg : rd_L1 a (i : Int) = a[i] := rdOf_lt (d := []) hi
        have hg2 : rd_L1 b (i : Int) = b[i] := rdOf_lt (d := []) (by omega)
        rw [hg, hg2, w64s (by omega)]
        refine Ev.bind (eqS a[i] b[i] (hr _ (List.getElem_mem hi))) ?_
        by_cases e : a[i] = b[i]
        · rw [decide_eq_true e]
          refine Ev.yes rfl (ih () fun j hj => ?_)
          by_cases e' : j = i
          · subst e'
            rw [List.getElem?_eq_getElem hi, List.getElem?_eq_getElem (by omega), e]
          · exact h2 j (by omega)
        · rw [decide_eq_false e]
          refine Ev.no (by simp) ?_
          rw [decide_eq_false (fun h => e (by subst h; rfl))]
          exact Ev.now _)
    have := key 0 () (by omega) (fun j hj => absurd hj (by omega))
    simpa using this
  · refine Ev.no (by omega) ?_
    rw [decide_eq_false (fun h => hl (by rw [h]))]
    exact Ev.now _
/-- The size of a list of lists as the laws count it. -/
def sz2 (x : List (List Int)) : Nat := x.length + (x.map List.length).sum
theorem szSS (x0 : List (List Int)) (hn : x0.length ≤ maxLen) (hr : ∀ x ∈ x0, x.length ≤ maxLen) (a : Nat) (ha : a ≤ 1048576) :
    Ev (fun k => laws_szInt64SS.f k x0 a) (if sz2 x0 ≤ a then ((a - sz2 x0 : Nat) : Int) else -1) := by
  unfold maxLen at hn hr
  have hrd : ∀ i, i < x0.length → rd_L1 x0 (i : Int) = x0.getD i [] := fun i hi => rfl
  have key := Ev.up (fun k (s : Nat) i => laws_szInt64SS.l0 k x0 (s : Int) i) x0.length
    (fun i s => if ((x0.drop i).map List.length).sum ≤ s then ((s - ((x0.drop i).map List.length).sum : Nat) : Int) else -1) (fun _ s => s ≤ 1048576)
    (fun s hs => by
      refine Ev.round ?_
      simp only [laws_szInt64SS.l0]
      refine Ev.no (by omega) ?_
      simp only [List.drop_length, List.map_nil, List.sum_nil, Nat.zero_le, if_true, Nat.sub_zero]
      exact Ev.now _)
    (fun i s hi hs ih => by
      refine Ev.round ?_
      simp only [laws_szInt64SS.l0]
      refine Ev.yes (by omega) (Ev.yes (by omega) ?_)
      have hg : rd_L1 x0 (i : Int) = x0[i] := rdOf_lt (d := []) hi
      rw [hg, w64s (by omega)]
      have hx := hr _ (List.getElem_mem hi)
      have hd : x0.drop i = x0[i] :: x0.drop (i + 1) := List.drop_eq_getElem_cons hi
      rw [hd, List.map_cons, List.sum_cons]
      have hw : wrap64 ((s : Int) - (x0[i].length : Int)) = (s : Int) - (x0[i].length : Int) := w64 (by omega) (by omega)
      have hf : laws_szInt64S.f x0[i] (s : Int) = some (if x0[i].length ≤ s then ((s - x0[i].length : Nat) : Int) else -1) := by
        unfold laws_szInt64S.f
        rw [hw]
        by_cases h : x0[i].length ≤ s
        · rw [if_neg (by omega), if_pos h]; congr 1; omega
        · rw [if_pos (by omega), if_neg h]
      refine Ev.here hf ?_
      by_cases h : x0[i].length ≤ s
      · rw [if_pos h]
        refine Ev.no (by omega) ?_
        have := ih (s - x0[i].length) (by omega)
        by_cases h2 : ((x0.drop (i + 1)).map List.length).sum ≤ s - x0[i].length
        · rw [if_pos h2] at this
          rw [if_pos (by omega), show s - (x0[i].length + ((x0.drop (i + 1)).map List.length).sum) = s - x0[i].length - ((x0.drop (i + 1)).map List.length).sum from by omega]
          exact this
        · rw [if_neg h2] at this
          rw [if_neg (by omega)]
          exact this
      · rw [if_neg h]
        refine Ev.yes (by omega) ?_
        rw [if_neg (by omega)]
        exact Ev.now _)
  unfold laws_szInt64SS.f
  have hw : wrap64 ((a : Int) - (x0.length : Int)) = (a : Int) - (x0.length : Int) := w64 (by omega) (by omega)
  rw [hw]
  unfold sz2
  by_cases h : x0.length ≤ a
  · refine Ev.no (by omega) ?_
    have := key 0 (a - x0.length) (by omega) (by omega)
    rw [show ((a - x0.length : Nat) : Int) = (a : Int) - (x0.length : Int) from by omega] at this
    simp only [List.drop_zero] at this
    by_cases h2 : (x0.map List.length).sum ≤ a - x0.length
    · rw [if_pos h2] at this
      rw [if_pos (by omega), show a - (x0.length + (x0.map List.length).sum) = a - x0.length - (x0.map List.length).sum from by omega]
      exact this
    · rw [if_neg h2] at this
      rw [if_neg (by omega)]
      exact this
  · refine Ev.yes (by omega) ?_
    rw [if_neg (by omega)]
    exact Ev.now _
theorem le_sum {l : List Nat} {a : Nat} (h : a ∈ l) : a ≤ l.sum := by
  induction l with
  | nil => cases h
  | cons b l ih =>
    rw [List.sum_cons]
    rcases List.mem_cons.1 h with rfl | h
    · omega
    · have := ih h; omega
theorem le_sz2 {x0 : List (List Int)} {x : List Int} (h : x ∈ x0) : x.length ≤ sz2 x0 := by
  unfold sz2
  have : x.length ∈ x0.map List.length := List.mem_map.2 ⟨x, h, rfl⟩
  have := le_sum this
  omega
end Go.Proofs.Ytcibmpomidhgiaa.U
end M3
section M4
namespace Go.Proofs.Ytcibmpomidhgiaa.U
open Go.RowKit Go.Proofs.Ytcibmpomidhgiaa.P Go.Proofs.YtcibmpomidhgiaaW.PrintWords Go.Proofs.YtcibmpomidhgiaaW.PrintLast
/-! The reference's test of an automaton. -/
theorem spIn (a lo hi : Int) : spec_l01In.f a lo hi = some (inRB a lo hi) := by
  unfold spec_l01In.f inRB
  by_cases h : lo ≤ a
  · rw [if_pos h, decide_eq_true h, Bool.true_and]
  · rw [if_neg h, decide_eq_false h, Bool.false_and]
theorem u64w {n : Int} (h0 : 0 ≤ n) (h1 : n < 18446744073709551616) : IntKind.u64.wrap n = n := by
  show n % 18446744073709551616 = n
  omega
theorem spOne {n : Int} (h0 : 0 ≤ n) (h1 : n < 18446744073709551616) : spec_l01One.f n = some (shl .i64 1 n) := by
  unfold spec_l01One.f
  rw [u64w h0 h1, if_pos h0]
theorem maskB_eq {F n : Int} (h0 : 0 ≤ n) (h1 : n ≤ 24) : maskB F n = inRB F 0 (wrap64 (shl .i64 1 n - 1)) := by
  unfold maskB impl_IsMask.f
  rw [inRange_some]
  have : inRB n 0 24 = true := by unfold inRB; simp; omega
  rw [this]
  simp only [Option.bind_some, if_true]
  unfold impl_one.f
  rw [if_pos h0]
  simp only [Option.bind_some]
  rw [inRange_some]
  rfl
theorem spFull {n : Int} (h0 : 0 ≤ n) (h1 : n < 18446744073709551616) : spec_l01Full.f n = some (wrap64 (shl .i64 1 n - 1)) := by
  unfold spec_l01Full.f
  rw [spOne h0 h1]
  rfl
theorem l11Is_loop (L S F : Int) (N : List (List Int)) (hn : N.length ≤ 16) (hL : L ≤ 8) : Ev (fun k => spec_l11Is.l0 k (N.length : Int) 0 L S F N) (!(N.any (badRow L N.length))) := by
  have key := Ev.up (fun k (_ : Unit) i => spec_l11Is.l0 k (N.length : Int) i L S F N) N.length (fun i _ => !((N.drop i).any (badRow L N.length))) (fun _ _ => True)
    (fun _ _ => by
      refine Ev.round ?_
      simp only [spec_l11Is.l0]
      refine Ev.no (by omega) ?_
      rw [List.drop_length]
      exact Ev.now _)
    (fun i _ hi _ ih => by
      refine Ev.round ?_
      simp only [spec_l11Is.l0]
      have hg : rd_L1 N (i : Int) = N[i] := rdOf_lt (d := []) hi
      refine Ev.yes (by omega) (Ev.yes (by omega) (Ev.yes (by omega) ?_))
      rw [hg, List.drop_eq_getElem_cons hi, List.any_cons]
      by_cases hl : (N[i].length : Int) = L
      · refine Ev.yes hl ?_
        have inner := Ev.up (fun k (_ : Unit) j => spec_l11Is.l1 k (N.length : Int) (i : Int) j L S F N) N[i].length
          (fun j _ => ((N[i].drop j).all fun t => decide (-1 ≤ t) && decide (t ≤ (N.length : Int) - 1)) && !((N.drop (i + 1)).any (badRow L N.length))) (fun _ _ => True)
          (fun _ _ => by
            refine Ev.round ?_
            simp only [spec_l11Is.l1]
            refine Ev.no (by omega) ?_
            rw [List.drop_length, w64s (by omega)]
            simpa using ih () trivial)
          (fun j _ hj _ ihj => by
            refine Ev.round ?_
            simp only [spec_l11Is.l1]
            rw [hg]
            refine Ev.yes (by omega) (Ev.yes (by omega) (Ev.yes (by omega) (Ev.yes (by omega) (Ev.yes (by omega) ?_))))
            rw [rd_lt hj, w64 (n := (N.length : Int) - 1) (by omega) (by omega), w64s (by omega)]
            refine Ev.here (spIn _ _ _) ?_
            rw [List.drop_eq_getElem_cons hj, List.all_cons]
            show Ev _ ((inRB N[i][j] (-1) ((N.length : Int) - 1) && _) && _)
            cases hb : inRB N[i][j] (-1) ((N.length : Int) - 1)
            · exact Ev.no (by simp) (Ev.now _)
            · refine Ev.yes rfl ?_
              simpa using ihj () trivial)
        have h0 := inner 0 () (by omega) trivial
        have hb : badRow L N.length N[i] = !(N[i].all fun t => decide (-1 ≤ t) && decide (t ≤ (N.length : Int) - 1)) := by unfold badRow; rw [decide_eq_true hl]; simp
        rw [hb, Bool.not_or, Bool.not_not]
        simpa using h0
      · refine Ev.no hl ?_
        have hb : badRow L N.length N[i] = true := by unfold badRow; rw [decide_eq_false hl]; simp
        rw [hb]
        exact Ev.now _)
  have := key 0 () (by omega) trivial
  simpa using this
theorem l11Is_ev (L S F : Int) (N : List (List Int)) (hN : N.length ≤ 9223372036854775807) : Ev (fun k => spec_l11Is.f k L S F N) (isAut L S F N) := by
  unfold spec_l11Is.f isAut
  refine Ev.here (show spec_l11States.f L S F N = some (N.length : Int) from rfl) ?_
  refine Ev.here (spIn _ _ _) ?_
  have hno : ∀ x3, Ev (fun k => spec_l11Is.j0 k x3 true L S F N) false := fun x3 => Ev.round (by simp only [spec_l11Is.j0]; exact Ev.yes (by trivial) (Ev.now _))
  cases h1 : inRB L 0 8
  · exact Ev.no (by simp) (hno _)
  refine Ev.yes rfl (Ev.here (spIn _ _ _) ?_)
  cases h2 : inRB (N.length : Int) 1 16
  · exact Ev.no (by simp) (hno _)
  have h2' := h2
  unfold inRB at h1 h2'
  simp only [Bool.and_eq_true, decide_eq_true_eq] at h1 h2'
  refine Ev.yes rfl ?_
  rw [w64 (n := (N.length : Int) - 1) (by omega) (by omega)]
  refine Ev.here (spIn _ _ _) ?_
  cases h3 : inRB S 0 ((N.length : Int) - 1)
  · exact Ev.no (by simp) (hno _)
  refine Ev.yes rfl (Ev.here (spFull (by omega) (by omega)) (Ev.here (spIn _ _ _) ?_))
  rw [← maskB_eq (by omega) (by omega)]
  cases h4 : maskB F N.length
  · exact hno _
  · refine Ev.round ?_
    simp only [spec_l11Is.j0]
    refine Ev.no (by simp) ?_
    simpa using l11Is_loop L S F N (by omega) h1.2
theorem szA (a b c : Int) (l : List (List Int)) (hn : l.length ≤ maxLen) (hr : ∀ x ∈ l, x.length ≤ maxLen) :
    Ev (fun k => laws_szAutomaton.f k a b c l 1048576) (if sz2 l ≤ 1048576 then ((1048576 - sz2 l : Nat) : Int) else -1) := by
  unfold laws_szAutomaton.f
  refine Ev.bind (szSS l hn hr 1048576 (by omega)) ?_
  by_cases h : sz2 l ≤ 1048576
  · rw [if_pos h]
    refine Ev.no (by omega) (Ev.now _)
  · rw [if_neg h]
    refine Ev.yes (by omega) (Ev.now _)
theorem toA (a b c : Int) (l : List (List Int)) (h : sz2 l ≤ 1048576) : Ev (fun k => laws_toAutomaton.f k a b c l) (a, b, c, l) := by
  unfold laws_toAutomaton.f
  refine Ev.bind (toSS l (by unfold sz2 at h; omega) (fun x hx => by have := le_sz2 hx; omega)) (Ev.now _)
theorem eqA (a b c : Int) (l : List (List Int)) (h : sz2 l ≤ 1048576) : Ev (fun k => laws_eqAutomaton.f k a b c l a b c l) true := by
  unfold laws_eqAutomaton.f
  refine Ev.yes rfl (Ev.yes rfl (Ev.yes rfl ?_))
  refine Ev.bind (eqSS l l (by unfold sz2 at h; omega) (fun x hx => by have := le_sz2 hx; omega)) ?_
  rw [decide_eq_true rfl]
  exact Ev.yes rfl (Ev.now _)
end Go.Proofs.Ytcibmpomidhgiaa.U
end M4
section M5
namespace Go.Proofs.Ytcibmpomidhgiaa.U
open Go.RowKit Go.Proofs.Ytcibmpomidhgiaa.P Go.Proofs.YtcibmpomidhgiaaW.PrintWords Go.Proofs.YtcibmpomidhgiaaW.PrintLast
/-! Reading words in an automaton. -/
/-- The rows of a machine: each of as many places as there are letters, each place a state or -1. -/
def Rows' (L : Int) (N : List (List Int)) : Prop := ∀ row ∈ N, (row.length : Int) = L ∧ ∀ t ∈ row, -1 ≤ t ∧ t < N.length
structure AutOK (L S F : Int) (N : List (List Int)) : Prop where
  l0 : 0 ≤ L
  l8 : L ≤ 8
  n1 : 1 ≤ N.length
  n16 : N.length ≤ 16
  s0 : 0 ≤ S
  sn : S < N.length
  mask : maskB F N.length = true
  rows : Rows' L N
theorem isAut_ok {L S F : Int} {N : List (List Int)} (h : isAut L S F N = true) : AutOK L S F N := by
  unfold isAut inRB at h
  simp only [Bool.and_eq_true, decide_eq_true_eq, Bool.not_eq_true', List.any_eq_false] at h
  obtain ⟨⟨a, b⟩, ⟨c, d⟩, ⟨e, f⟩, g, i⟩ := h
  refine ⟨a, b, by omega, by omega, e, by omega, g, fun row hr => ?_⟩
  have := i row hr
  unfold badRow at this
  simp only [Bool.or_eq_true, Bool.not_eq_true', decide_eq_false_iff_not, not_or, Decidable.not_not, Bool.not_eq_false, List.all_eq_true, Bool.and_eq_true, decide_eq_true_eq] at this
  exact ⟨this.1, fun t ht => ⟨(this.2 t ht).1, by have := (this.2 t ht).2; omega⟩⟩
/-- The state to which a letter leads, -1 for no state. -/
def nx (N : List (List Int)) (s a : Int) : Int := if s < 0 then -1 else rd (rd_L1 N s) a
/-- The state to which a word leads. -/
def rdW (N : List (List Int)) (s : Int) (w : List Int) : Int := w.foldl (nx N) s
theorem nat_of {i : Int} {n : Nat} (h0 : 0 ≤ i) (h1 : i < n) : ∃ k : Nat, i = k ∧ k < n := ⟨i.toNat, by omega, by omega⟩
theorem row_at {L : Int} {N : List (List Int)} (hN : Rows' L N) {s : Int} (h0 : 0 ≤ s) (h1 : s < N.length) : ((rd_L1 N s).length : Int) = L ∧ ∀ t ∈ rd_L1 N s, -1 ≤ t ∧ t < N.length := by
  obtain ⟨k, rfl, hk⟩ := nat_of h0 h1
  have hg : rd_L1 N (k : Int) = N[k] := rdOf_lt (d := []) hk
  rw [hg]
  exact hN _ (List.getElem_mem hk)
theorem rd_mem {l : List Int} {i : Int} (h0 : 0 ≤ i) (h1 : i < l.length) : rd l i ∈ l := by
  obtain ⟨k, rfl, hk⟩ := nat_of h0 h1
  rw [rd_lt hk]
  exact List.getElem_mem hk
theorem nx_in {L : Int} {N : List (List Int)} (hN : Rows' L N) {s a : Int} (h1 : s < N.length) (ha : 0 ≤ a) (hb : a < L) : -1 ≤ nx N s a ∧ nx N s a < N.length := by
  unfold nx
  by_cases h : s < 0
  · rw [if_pos h]; omega
  · rw [if_neg h]
    have hr := row_at hN (s := s) (by omega) h1
    exact hr.2 _ (rd_mem ha (by omega))
theorem rdW_neg (N : List (List Int)) {s : Int} (h : s < 0) (w : List Int) : w ≠ [] → rdW N s w = -1 := by
  intro hw
  induction w generalizing s with
  | nil => exact absurd rfl hw
  | cons a w ih =>
    show rdW N (nx N s a) w = -1
    have e : nx N s a = -1 := by unfold nx; rw [if_pos h]
    rw [e]
    by_cases hn : w = []
    · subst hn; rfl
    · exact ih (by omega) hn
theorem rdW_neg' (N : List (List Int)) (w : List Int) : rdW N (-1) w = -1 := by
  by_cases h : w = []
  · subst h; rfl
  · exact rdW_neg N (by omega) w h
theorem rdW_in {L : Int} {N : List (List Int)} (hN : Rows' L N) {s : Int} (h0 : -1 ≤ s) (h1 : s < N.length) (w : List Int) (hw : ∀ a ∈ w, 0 ≤ a ∧ a < L) : -1 ≤ rdW N s w ∧ rdW N s w < N.length := by
  induction w generalizing s with
  | nil => exact ⟨h0, h1⟩
  | cons a w ih =>
    have ha := hw a List.mem_cons_self
    have hx := nx_in hN h1 ha.1 ha.2
    exact ih hx.1 hx.2 (fun b hb => hw b (List.mem_cons_of_mem _ hb))
def overB (L : Int) (w : List Int) : Bool := decide ((w.length : Int) ≤ 24) && w.all fun t => inRB t 0 (L - 1)
theorem over_in {L : Int} {w : List Int} (h : overB L w = true) : w.length ≤ 24 ∧ ∀ a ∈ w, 0 ≤ a ∧ a < L := by
  unfold overB inRB at h
  simp only [Bool.and_eq_true, decide_eq_true_eq, List.all_eq_true] at h
  exact ⟨by omega, fun a ha => ⟨(h.2 a ha).1, by have := (h.2 a ha).2; omega⟩⟩
theorem isOver_eq (L : Int) (w : List Int) (h0 : 0 ≤ L) (h8 : L ≤ 8) : impl_isOver.f L w = some (overB L w) := by
  unfold impl_isOver.f overB
  by_cases h : (w.length : Int) ≤ 24
  · rw [if_pos h, decide_eq_true h, w64 (by omega) (by omega)]
    rfl
  · rw [if_neg h, decide_eq_false h]
    rfl
theorem l11Word_ev (L : Int) (w : List Int) (h0 : 0 ≤ L) (h8 : L ≤ 8) (hw : w.length ≤ 9223372036854775806) : Ev (fun k => spec_l11Word.f k L w) (overB L w) := by
  have key := Ev.up (fun k (_ : Unit) i => spec_l11Word.l0 k L w i) w.length (fun i _ => decide ((w.length : Int) ≤ 24) && (w.drop i).all fun t => inRB t 0 (L - 1)) (fun _ _ => True)
    (fun _ _ => by
      refine Ev.round ?_
      simp only [spec_l11Word.l0]
      refine Ev.no (by omega) ?_
      rw [List.drop_length, List.all_nil, Bool.and_true]
      exact Ev.now _)
    (fun i _ hi _ ih => by
      refine Ev.round ?_
      simp only [spec_l11Word.l0]
      refine Ev.yes (by omega) (Ev.yes (by omega) ?_)
      rw [rd_lt hi, w64 (n := L - 1) (by omega) (by omega), w64s (by omega), List.drop_eq_getElem_cons hi, List.all_cons]
      refine Ev.here (spIn _ _ _) ?_
      cases hb : inRB w[i] 0 (L - 1)
      · refine Ev.no (by simp) ?_
        rw [Bool.false_and, Bool.and_false]
        exact Ev.now _
      · refine Ev.yes rfl ?_
        rw [Bool.true_and]
        exact ih () trivial)
  have := key 0 () (by omega) trivial
  unfold spec_l11Word.f overB
  simpa using this
/-- What the code of an automaton and a word is. -/
def codeW (L S F : Int) (N : List (List Int)) (w : List Int) : Int := if isAut L S F N then (if overB L w then 0 else 2) else 1
theorem checkWord_eq (L S F : Int) (N : List (List Int)) (w : List Int) : impl_checkWord.f L S F N w = some (codeW L S F N w) := by
  unfold impl_checkWord.f codeW
  rw [show impl_IsAutomaton.f L S F N = some (isAut L S F N) from rfl]
  simp only [Option.bind_some]
  cases h : isAut L S F N
  · rfl
  · have ok := isAut_ok h
    simp only [if_true]
    rw [isOver_eq L w ok.l0 ok.l8]
    simp only [Option.bind_some]
    cases overB L w <;> rfl
theorem l11Code_ev (L S F : Int) (N : List (List Int)) (w : List Int) (hN : N.length ≤ 9223372036854775807) (hw : w.length ≤ 9223372036854775806) : Ev (fun k => spec_l11Code.f k L S F N w) (codeW L S F N w) := by
  unfold spec_l11Code.f codeW
  refine Ev.bind (l11Is_ev L S F N hN) ?_
  cases h : isAut L S F N
  · exact Ev.no (by simp) (Ev.now _)
  · have ok := isAut_ok h
    refine Ev.yes rfl (Ev.bind (l11Word_ev L w ok.l0 ok.l8 hw) ?_)
    cases overB L w
    · exact Ev.no (by simp) (Ev.now _)
    · exact Ev.yes rfl (Ev.now _)
theorem codeW_0 {L S F : Int} {N : List (List Int)} {w : List Int} (h : codeW L S F N w = 0) : AutOK L S F N ∧ overB L w = true := by
  unfold codeW at h
  split at h
  · rename_i h1
    split at h
    · rename_i h2; exact ⟨isAut_ok h1, h2⟩
    · omega
  · omega
/-- The reference's reading, from a state. -/
theorem l11Read_ev {L S F : Int} {N : List (List Int)} (hN : Rows' L N) (s : Int) (w : List Int) (h0 : -1 ≤ s) (h1 : s < N.length) (hl : w.length ≤ 9223372036854775806) (hw : ∀ a ∈ w, 0 ≤ a ∧ a < L) :
    Ev (fun k => spec_l11Read.f k L S F N s w) (rdW N s w) := by
  have key := Ev.up (fun k (s : Int) i => spec_l11Read.l0 k s w i L S F N) w.length (fun i s => rdW N s (w.drop i)) (fun _ s => -1 ≤ s ∧ s < N.length)
    (fun s hs => by
      refine Ev.round ?_
      simp only [spec_l11Read.l0]
      refine Ev.no (by omega) ?_
      rw [List.drop_length]
      exact Ev.now _)
    (fun i s hi hs ih => by
      refine Ev.round ?_
      simp only [spec_l11Read.l0]
      refine Ev.yes (by omega) ?_
      rw [List.drop_eq_getElem_cons hi]
      by_cases h : s ≥ 0
      · have ha := hw _ (List.getElem_mem hi)
        have hr := row_at hN (s := s) h hs.2
        rw [rd_lt hi]
        refine Ev.yes h (Ev.yes h (Ev.yes hs.2 (Ev.yes (by omega) (Ev.yes ha.1 (Ev.yes (by omega) ?_)))))
        rw [w64s (by omega)]
        have hx := nx_in hN (s := s) hs.2 ha.1 ha.2
        have e : nx N s w[i] = rd (rd_L1 N s) w[i] := by unfold nx; rw [if_neg (by omega)]
        have := ih (nx N s w[i]) hx
        rw [e] at this
        show Ev _ (rdW N (nx N s w[i]) (w.drop (i + 1)))
        rw [e]
        exact this
      · refine Ev.no h ?_
        have : s = -1 := by omega
        subst this
        rw [rdW_neg' N]
        exact Ev.now _)
  have := key 0 s (by omega) ⟨h0, h1⟩
  unfold spec_l11Read.f
  simpa using this
def hasB (F s : Int) : Bool := (Go.bits .and .i64 (shr .i64 F s) 1) == 1
theorem has_eq {F s : Int} (h : 0 ≤ s) : impl_has.f F s = some (hasB F s) := by unfold impl_has.f; rw [if_pos h]; rfl
theorem bit_eq {F s : Int} (h : 0 ≤ s) (h1 : s < 18446744073709551616) : spec_l01Bit.f F s = some (hasB F s) := by
  unfold spec_l01Bit.f; rw [u64w h h1, if_pos h]; rfl
/-- The final states of an automaton, as a list. -/
def finL (F : Int) (n : Nat) : List Bool := (List.range n).map fun (s : Nat) => hasB F s
theorem machineOf_ev (L S F : Int) (N : List (List Int)) (hn : N.length ≤ 1048576) : Ev (fun k => impl_machineOf.f k L S F N) (L, S, finL F N.length, N) := by
  have key := Ev.up (fun k (s : List Bool) i => impl_machineOf.l0 k (N.length : Int) i L S F N L S s N) N.length (fun _ _ => (L, S, finL F N.length, N)) (fun i s => s = finL F i)
    (fun s hs => by
      refine Ev.round ?_
      simp only [impl_machineOf.l0]
      refine Ev.no (by omega) ?_
      rw [hs]
      exact Ev.now _)
    (fun i s hi hs ih => by
      refine Ev.round ?_
      simp only [impl_machineOf.l0]
      refine Ev.yes (by omega) (Ev.here (has_eq (by omega)) ?_)
      have hl : s.length = i := by rw [hs]; simp [finL]
      refine Ev.yes (by omega) ?_
      rw [w64s (by omega)]
      refine ih _ ?_
      rw [hs]
      simp [finL, List.range_succ])
  have := key 0 [] (by omega) (by simp [finL])
  unfold impl_machineOf.f
  simpa using this
theorem step_eq {L : Int} {N : List (List Int)} (hN : Rows' L N) (S : Int) (fin : List Bool) {s a : Int} (h1 : s < N.length) (ha : 0 ≤ a) (hb : a < L) : impl_machine_step.f L S fin N s a = some (nx N s a) := by
  unfold impl_machine_step.f nx
  by_cases h : s < 0
  · rw [if_pos h, if_pos h]
  · have hr := row_at hN (s := s) (by omega) h1
    rw [if_neg h, if_neg h, if_pos (by omega), if_pos h1, if_pos ha, if_pos (by omega)]
theorem mread_ev {L : Int} {N : List (List Int)} (hN : Rows' L N) (S : Int) (fin : List Bool) (w : List Int) (h0 : -1 ≤ S) (h1 : S < N.length) (hl : w.length ≤ 9223372036854775806) (hw : ∀ a ∈ w, 0 ≤ a ∧ a < L) :
    Ev (fun k => impl_machine_read.f k L S fin N w) (rdW N S w) := by
  have key := Ev.up (fun k (s : Int) i => impl_machine_read.l0 k s w (w.length : Int) i L S fin N) w.length (fun i s => rdW N s (w.drop i)) (fun _ s => -1 ≤ s ∧ s < N.length)
    (fun s hs => by
      refine Ev.round ?_
      simp only [impl_machine_read.l0]
      refine Ev.no (by omega) ?_
      rw [List.drop_length]
      exact Ev.now _)
    (fun i s hi hs ih => by
      refine Ev.round ?_
      simp only [impl_machine_read.l0]
      have ha := hw _ (List.getElem_mem hi)
      rw [rd_lt hi]
      refine Ev.yes (by omega) (Ev.yes (by omega) (Ev.yes (by omega) (Ev.here (step_eq hN S fin hs.2 ha.1 ha.2) ?_)))
      rw [w64s (by omega), List.drop_eq_getElem_cons hi]
      exact ih _ (nx_in hN hs.2 ha.1 ha.2))
  have := key 0 S (by omega) ⟨h0, h1⟩
  unfold impl_machine_read.f
  simpa using this
theorem finL_at {F : Int} {n : Nat} {s : Int} (h0 : 0 ≤ s) (h1 : s < n) : rdOf false (finL F n) s = hasB F s := by
  obtain ⟨k, rfl, hk⟩ := nat_of h0 h1
  rw [rdOf_lt (by simp [finL]; exact hk)]
  simp [finL]
/-- Is a state final? -/
def fin? (F s : Int) : Bool := if 0 ≤ s then hasB F s else false
theorem accepts_eq {F : Int} {N : List (List Int)} (L S : Int) {s : Int} (h1 : s < N.length) : impl_machine_accepts.f L S (finL F N.length) N s = some (fin? F s) := by
  unfold impl_machine_accepts.f fin?
  by_cases h : s ≥ 0
  · rw [if_pos h, if_pos h, if_pos (by simp [finL]; exact h1), if_pos h, finL_at h h1]
  · rw [if_neg h, if_neg h]
theorem l11Accepts_ev {L S F : Int} {N : List (List Int)} (hN : Rows' L N) (hn : N.length ≤ 1048576) (s : Int) (w : List Int) (h0 : -1 ≤ s) (h1 : s < N.length) (hl : w.length ≤ 9223372036854775806) (hw : ∀ a ∈ w, 0 ≤ a ∧ a < L) :
    Ev (fun k => spec_l11Accepts.f k L S F N s w) (fin? F (rdW N s w)) := by
  unfold spec_l11Accepts.f
  refine Ev.bind (l11Read_ev hN s w h0 h1 hl hw) ?_
  have hin := rdW_in hN h0 h1 w hw
  unfold fin?
  by_cases h : rdW N s w ≥ 0
  · refine Ev.yes h (Ev.here (bit_eq h (by omega)) ?_)
    rw [if_pos h]
    exact Ev.now _
  · refine Ev.no h ?_
    rw [if_neg h]
    exact Ev.now _
end Go.Proofs.Ytcibmpomidhgiaa.U
end M5
section M6
namespace Go.Proofs.Ytcibmpomidhgiaa.Pure
open Go.RowKit Go.Proofs.Ytcibmpomidhgiaa.P Go.Proofs.Ytcibmpomidhgiaa.U Go.Proofs.YtcibmpomidhgiaaW.PrintWords Go.Proofs.YtcibmpomidhgiaaW.PrintLast
/-- What AcceptsWord answers. -/
def accA (L S F : Int) (N : List (List Int)) (w : List Int) : Bool × Int := if codeW L S F N w = 0 then (fin? F (rdW N S w), 0) else (false, codeW L S F N w)
theorem spec_AcceptsWord_ev (L S F : Int) (N : List (List Int)) (w : List Int) (hN : N.length ≤ 1048576) (hw : w.length ≤ 1048576) : Ev (fun k => spec_AcceptsWord.f k L S F N w) (accA L S F N w) := by
  unfold spec_AcceptsWord.f accA
  refine Ev.bind (l11Code_ev L S F N w (by omega) (by omega)) ?_
  by_cases h : codeW L S F N w = 0
  · obtain ⟨ok, ov⟩ := codeW_0 h
    rw [if_pos h]
    exact Ev.yes h (Ev.bind (l11Accepts_ev ok.rows hN S w (by have := ok.s0; omega) ok.sn (by omega) (over_in ov).2) (Ev.now _))
  · rw [if_neg h]
    exact Ev.no h (Ev.now _)
theorem impl_AcceptsWord_ev (L S F : Int) (N : List (List Int)) (w : List Int) (hN : N.length ≤ 1048576) (hw : w.length ≤ 1048576) : Ev (fun k => impl_AcceptsWord.f k L S F N w) (accA L S F N w) := by
  unfold impl_AcceptsWord.f accA
  refine Ev.here (checkWord_eq L S F N w) ?_
  by_cases h : codeW L S F N w = 0
  · obtain ⟨ok, ov⟩ := codeW_0 h
    rw [if_pos h]
    refine Ev.yes h (Ev.bind (machineOf_ev L S F N hN) (Ev.bind (machineOf_ev L S F N hN) (Ev.bind (mread_ev ok.rows S _ w (by have := ok.s0; omega) ok.sn (by omega) (over_in ov).2) ?_)))
    exact Ev.here (accepts_eq L S (rdW_in ok.rows (by have := ok.s0; omega) ok.sn w (over_in ov).2).2) (Ev.now _)
  · rw [if_neg h]
    exact Ev.no h (Ev.now _)
theorem FnExactAcceptsWord : ∀ (a0_0 : Int) (a0_1 : Int) (a0_2 : Int) (l0_3 : List (List Int)) (l1 : List Int), ((Lit.int .i64 a0_0).wf = true) → ((Lit.int .i64 a0_1).wf = true) → ((Lit.int .i64 a0_2).wf = true) → (l0_3.length ≤ maxLen ∧ ∀ x0 ∈ l0_3, x0.length ≤ maxLen ∧ ∀ x1 ∈ x0, (Lit.int .i64 x1).wf = true) → (l1.length ≤ maxLen ∧ ∀ x2 ∈ l1, (Lit.int .i64 x2).wf = true) → ∃ k, laws_FnExactAcceptsWord.f k a0_0 a0_1 a0_2 l0_3 l1 = some true := by
  intro a b c l v _ _ _ ⟨hn, hr⟩ _
  apply Ev.rounds
  unfold laws_FnExactAcceptsWord.f
  by_cases hv : (v.length : Int) > 1048576
  · exact Ev.yes hv (Ev.now _)
  refine Ev.no hv (Ev.bind (szA a b c l hn (fun x hx => (hr x hx).1)) ?_)
  by_cases h : sz2 l ≤ 1048576
  · rw [if_pos h]
    refine Ev.no (by omega) ?_
    have hl : l.length ≤ 1048576 := by unfold sz2 at h; omega
    refine Ev.bind (toA a b c l h) (Ev.bind (toS v (by omega)) ?_)
    refine Ev.bind (spec_AcceptsWord_ev a b c l v (by omega) (by omega)) ?_
    refine Ev.bind (toA a b c l h) (Ev.bind (toS v (by omega)) ?_)
    refine Ev.bind (impl_AcceptsWord_ev a b c l v (by omega) (by omega)) ?_
    refine Ev.no (by simp) ?_
    refine Ev.round ?_
    simp only [laws_FnExactAcceptsWord.j0]
    refine Ev.no (by simp) (Ev.bind (toA a b c l h) (Ev.bind (eqA a b c l h) (Ev.yes rfl (Ev.bind (toS v (by omega)) (Ev.bind (eqS v v (by omega)) ?_)))))
    rw [decide_eq_true rfl]
    exact Ev.yes rfl (Ev.now _)
  · rw [if_neg h]
    exact Ev.yes (by omega) (Ev.now _)
end Go.Proofs.Ytcibmpomidhgiaa.Pure
end M6
