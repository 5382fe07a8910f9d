import Derived.ArgAppend
import Derived.Below
import Derived.BigQuiet
import Derived.ChangeShapes
import Derived.Deep.AppendLies
import Derived.Deep.CutBlock
import Derived.Deep.DeepCutAuto
import Derived.Deep.Draws
import Derived.Deep.LoopGhost
import Derived.Deep.OwnRows
import Derived.Deep.QuietTactic
import Derived.Deep.RegionHeld3
import Derived.Deep.Slices
import Derived.KernelRfl
import Derived.Laws.BitsLemmas
import Derived.Laws.BytesArg
import Derived.Laws.IdiomCopy
import Derived.Laws.MakeOwn
import Derived.Laws.OwnMore
import Derived.Laws.Rows
import Derived.Laws.Slices
import Derived.Laws.StructEq
import Derived.Lib.AppendStr
import Derived.Lib.ConvBytes
import Derived.Lib.SliceRun
import Derived.Lib.SmallJoins
import Derived.Maps.AppendAt
import Derived.OrdersHeld
import Derived.OwnWalk
import Derived.RowKit
import Derived.RowKit3
import Derived.Shelf.Abstract
import Derived.Shelf.Spec.TrailingZeros
import Derived.Tactics
import Derived.Test.YthbaocejgjpfoaaDoorProg
import Derived.WalkKit
import Derived.WideLaws
import Derived.Test.YthbaocejgjpfoaaDoorCFnExactHasDiamonds0
import Derived.Test.YthbaocejgjpfoaaDoorCFnExactHasDiamonds1
import Derived.Test.YthbaocejgjpfoaaDoorCFnExactHasDiamonds2
import Derived.Test.YthbaocejgjpfoaaDoorCFnExactHasDiamonds3
import Derived.Test.YthbaocejgjpfoaaDoorCFnExactHasDiamonds4
import Derived.Test.YthbaocejgjpfoaaDoorCFnExactHasDiamonds5
import Derived.Test.YthbaocejgjpfoaaDoorCFnExactHasDiamonds6
import Derived.Test.YthbaocejgjpfoaaDoorCFnExactHasDiamonds7
section M0
namespace Go.Proofs.YthbaocejgjpfoaaDoor.P
open Go.RowKit Go.Proofs.YthbaocejgjpfoaaDoor.Sh Go.Proofs.YthbaocejgjpfoaaDoorW.PrintWords Go.Proofs.YthbaocejgjpfoaaDoorW.PrintLast Go.Proofs.YthbaocejgjpfoaaDoorW.PrintMore
attribute [local go_sem] max2_int min2_int max_two min_two max_three min_three max_four min_four   -- for this text's walks alone
set_option linter.unusedVariables false
set_option linter.unusedSimpArgs false

/-! ### laws_FnExactHasDiamonds: function 5 -/
def laws_FnExactHasDiamonds.j0 : Nat → Bool → Int → List Int → Int → Int → Int → List (List Int) → Int → List Int → Int → Int → Int → List (List Int) → Option (Bool)
 | 0, _, _, _, _, _, _, _, _, _, _, _, _, _ => none
 | k + 1, x47, x460000, x460001, x461000, x461001, x461002, x461003, x480000, x480001, x487000, x487001, x487002, x487003 => if x47 = true then (some false) else ((laws_toAlphabet.f k x460000 x460001).bind fun bt489 => ((laws_eqAlphabet.f k x480000 x480001 bt489.1 bt489.2).bind fun t493 => (if t493 = true then ((laws_toAutomaton.f k x461000 x461001 x461002 x461003).bind fun bt494 => ((laws_eqAutomaton.f k x487000 x487001 x487002 x487003 bt494.1 bt494.2.1 bt494.2.2.1 bt494.2.2.2).bind fun t500 => (if t500 = true then (some true) else (some false)))) else (some false))))
def laws_FnExactHasDiamonds.f (k : Nat) (a0_0 : Int) (l0_1 : List Int) (a1_0 : Int) (a1_1 : Int) (a1_2 : Int) (l1_3 : List (List Int)) : Option (Bool) := (laws_szAlphabet.f a0_0 l0_1 1048576).bind fun t461 => (if t461 < 0 then (some true) else ((laws_szAutomaton.f k a1_0 a1_1 a1_2 l1_3 t461).bind fun t462 => (if t462 < 0 then (some true) else ((laws_toAlphabet.f k a0_0 l0_1).bind fun bt463 => ((laws_toAutomaton.f k a1_0 a1_1 a1_2 l1_3).bind fun bt467 => ((spec_HasDiamonds.f k bt463.1 bt463.2 bt467.1 bt467.2.1 bt467.2.2.1 bt467.2.2.2).bind fun bt473 => ((laws_toAlphabet.f k a0_0 l0_1).bind fun bt475 => ((laws_toAutomaton.f k a1_0 a1_1 a1_2 l1_3).bind fun bt480 => ((impl_HasDiamonds.f k bt475.1 bt475.2 bt480.1 bt480.2.1 bt480.2.2.1 bt480.2.2.2).bind fun bt487 => (if (bt487.1 != bt473.1) = true then (laws_FnExactHasDiamonds.j0 k true a0_0 l0_1 a1_0 a1_1 a1_2 l1_3 bt475.1 bt475.2 bt480.1 bt480.2.1 bt480.2.2.1 bt480.2.2.2) else (laws_FnExactHasDiamonds.j0 k (bt487.2 != bt473.2) a0_0 l0_1 a1_0 a1_1 a1_2 l1_3 bt475.1 bt475.2 bt480.1 bt480.2.1 bt480.2.2.1 bt480.2.2.2)))))))))))
def laws_FnExactHasDiamonds.T8 : Bool × List (List Nat × List Nat) := (true, [([], []), ([0], [0]), ([], []), ([2, 1], [2]), ([1, 3, 3], [1, 3]), ([4], [4]), ([5], [5]), ([5], [5]), ([6, 4, 0, 1, 2, 3, 4, 5, 6], [6]), ([7, 8, 0, 1, 2, 3, 4, 5, 6, 7, 8], [7])])
def laws_FnExactHasDiamonds.B8 : List Nat := [0, 1, 0, 7, 15, 31, 63, 63, 127, 511]
theorem laws_FnExactHasDiamonds.tab8 : rtab .any (opsOf Tryd.f5 8) = laws_FnExactHasDiamonds.T8 := by kernel_rfl
theorem laws_FnExactHasDiamonds.bits8 : waitsOk laws_FnExactHasDiamonds.T8.2 laws_FnExactHasDiamonds.B8 = true := by kernel_rfl
set_option maxHeartbeats 8000000 in
set_option maxRecDepth 100000 in
theorem laws_FnExactHasDiamonds.calls (k : Nat) (a0_0 : Int) (A0_1 : Option Addr) (c0_1 : Nat) (l0_1 : List Int) (a1_0 : Int) (a1_1 : Int) (a1_2 : Int) (A1_3 : Option Addr) (c1_3 : Nat) (l1_3 : List (List Int)) (r : Bool) (w : World) (hr0_1 : Kd.C (Kd.int .i64) w A0_1 l0_1.length l0_1) (hc0_1 : l0_1.length ≤ c0_1) (hr1_3 : Kd.C (Kd.slice 2 (Kd.int .i64)) w A1_3 l1_3.length l1_3) (hc1_3 : l1_3.length ≤ c1_3) (h : laws_FnExactHasDiamonds.f k a0_0 l0_1 a1_0 a1_1 a1_2 l1_3 = some r) (hT_ : r = true) (hTab : Tab w) :
  Calls Tryd.prog 5 #[.agg #[.int .i64 a0_0, .slice A0_1 l0_1.length c0_1], .agg #[.int .i64 a1_0, .int .i64 a1_1, .int .i64 a1_2, .slice A1_3 l1_3.length c1_3]] w fun e w' => e = .returned (.bool r) ∧ Below w.heap.size w w' := by
 have HTab := Aside0.mk hTab
 clear hTab
 have HTr_ := Aside0.mk hT_
 clear hT_
 have hu24 := Tryd.underlying24
 have hu44 := Tryd.underlying44
 have hu29 := Tryd.underlying29
 have hu48 := Tryd.underlying48
 have HR0_1 := Aside0.mk hr0_1
 have HC0_1 := Aside0.mk hc0_1
 clear hr0_1 hc0_1
 have HR1_3 := Aside0.mk hr1_3
 have HC1_3 := Aside0.mk hc1_3
 clear hr1_3 hc1_3
 have HB := Aside0.mk (Below.refl w.heap.size w)
 have H : ((laws_szAlphabet.f a0_0 l0_1 1048576).bind fun t461 => (if t461 < 0 then (some true) else ((laws_szAutomaton.f k a1_0 a1_1 a1_2 l1_3 t461).bind fun t462 => (if t462 < 0 then (some true) else ((laws_toAlphabet.f k a0_0 l0_1).bind fun bt463 => ((laws_toAutomaton.f k a1_0 a1_1 a1_2 l1_3).bind fun bt467 => ((spec_HasDiamonds.f k bt463.1 bt463.2 bt467.1 bt467.2.1 bt467.2.2.1 bt467.2.2.2).bind fun bt473 => ((laws_toAlphabet.f k a0_0 l0_1).bind fun bt475 => ((laws_toAutomaton.f k a1_0 a1_1 a1_2 l1_3).bind fun bt480 => ((impl_HasDiamonds.f k bt475.1 bt475.2 bt480.1 bt480.2.1 bt480.2.2.1 bt480.2.2.2).bind fun bt487 => (if (bt487.1 != bt473.1) = true then (laws_FnExactHasDiamonds.j0 k true a0_0 l0_1 a1_0 a1_1 a1_2 l1_3 bt475.1 bt475.2 bt480.1 bt480.2.1 bt480.2.2.1 bt480.2.2.2) else (laws_FnExactHasDiamonds.j0 k (bt487.2 != bt473.2) a0_0 l0_1 a1_0 a1_1 a1_2 l1_3 bt475.1 bt475.2 bt480.1 bt480.2.1 bt480.2.2.1 bt480.2.2.2)))))))))))) = some r := h
 clear h
 replace H := Option.bind_eq_some_iff.mp H
 obtain ⟨t461, A30, H⟩ := H
 replace H : (if t461 < 0 then (some true) else ((laws_szAutomaton.f k a1_0 a1_1 a1_2 l1_3 t461).bind fun t462 => (if t462 < 0 then (some true) else ((laws_toAlphabet.f k a0_0 l0_1).bind fun bt463 => ((laws_toAutomaton.f k a1_0 a1_1 a1_2 l1_3).bind fun bt467 => ((spec_HasDiamonds.f k bt463.1 bt463.2 bt467.1 bt467.2.1 bt467.2.2.1 bt467.2.2.2).bind fun bt473 => ((laws_toAlphabet.f k a0_0 l0_1).bind fun bt475 => ((laws_toAutomaton.f k a1_0 a1_1 a1_2 l1_3).bind fun bt480 => ((impl_HasDiamonds.f k bt475.1 bt475.2 bt480.1 bt480.2.1 bt480.2.2.1 bt480.2.2.2).bind fun bt487 => (if (bt487.1 != bt473.1) = true then (laws_FnExactHasDiamonds.j0 k true a0_0 l0_1 a1_0 a1_1 a1_2 l1_3 bt475.1 bt475.2 bt480.1 bt480.2.1 bt480.2.2.1 bt480.2.2.2) else (laws_FnExactHasDiamonds.j0 k (bt487.2 != bt473.2) a0_0 l0_1 a1_0 a1_1 a1_2 l1_3 bt475.1 bt475.2 bt480.1 bt480.2.1 bt480.2.2.1 bt480.2.2.2))))))))))) = some r := H
 have A3 := Aside0.mk A30
 clear A30
 by_cases c4 : t461 < 0
 ·rw [if_pos c4] at H
  have c4b0 : decide (t461 < 0) = true := decide_eq_true c4
  clear c4
  obtain rfl := Option.some.inj H
  go_enter Tryd.func5, Tryd.ntmps5
  go_wp2_with (first | ((with_reducible refine gate_dst (N := 2) rfl ?_); refine boxS (N := 2) (cs := #[.int .i64 a0_0, .slice A0_1 l0_1.length c0_1]) (t := 24) ?_; intro gb459 hg w5 hbox hb; have n0_ := Aside0.mk (below_step (bW) hb); have n1_ := Aside0.mk (hbox); have n2_ := geW (w := w) hg; have n3_ := geW (w := w) hg; clear HB; have HB := n0_; have BK459 := n1_; have GW459 := n2_; have GE459 := n3_; clear n0_ n1_ n2_ n3_; clear hb hbox hg) | ((with_reducible refine gate_dst (N := 3) rfl ?_); refine boxS (N := 3) (cs := #[.int .i64 a1_0, .int .i64 a1_1, .int .i64 a1_2, .slice A1_3 l1_3.length c1_3]) (t := 44) ?_; intro gb460 hg w6 hbox hb; have n0_ := Aside0.mk (blkB BK459.out hb); have n1_ := Aside0.mk (below_step (bW) hb); have n2_ := Aside0.mk (hbox); have n3_ := geW (w := w) hg; have n4_ := geW (w := w) hg; have n5_ := Aside0.mk ((by rw [hg]; exact Nat.ne_of_lt (blk_lt (g := gb459) (o := .cells #[.int .i64 a0_0, .slice A0_1 l0_1.length c0_1] 24 (0, 0)) (bP BK459.out)) : gb459 ≠ gb460)); have n6_ := Aside0.mk ((by rw [hg]; exact Nat.ne_of_gt (blk_lt (g := gb459) (o := .cells #[.int .i64 a0_0, .slice A0_1 l0_1.length c0_1] 24 (0, 0)) (bP BK459.out)) : gb460 ≠ gb459)); clear BK459; clear HB; have BK459 := n0_; have HB := n1_; have BK460 := n2_; have GW460 := n3_; have GE460 := n4_; have NB459_460 := n5_; have NB460_459 := n6_; clear n0_ n1_ n2_ n3_ n4_ n5_ n6_; clear hb hbox hg; have hnb7 := NB459_460.out; have hnc7 := NB460_459.out; obtain ⟨hcz8_0, hcz8_1⟩ := cells2 BK459.out; obtain ⟨hfz8_0, hfz8_1⟩ := frz2 BK459.out) | ((with_reducible refine gate_callee (f := 12) rfl ?_); refine goesS (some 14) Tryd.func12 #[.agg #[.int .i64 a0_0, .slice A0_1 l0_1.length c0_1], .int .i64 1048576] ?_; (with_reducible refine (laws_szAlphabet.calls a0_0 _ _ l0_1 1048576 t461 _ ?side1 ?side2 A3.out).mono ?_); (case side1 => exact cP (Kd.C_below HR0_1.out HB.out)); (case side2 => exact HC0_1.out); rintro e w9 ⟨rfl, hb⟩; refine ⟨_, rfl, ?_⟩; have n0_ := Aside0.mk (blkB BK459.out hb); have n1_ := Aside0.mk (blkB BK460.out hb); have n2_ := Aside0.mk (below_step (bW) hb); clear BK459; clear BK460; clear HB; have BK459 := n0_; have BK460 := n1_; have HB := n2_; clear n0_ n1_ n2_; (try clear hb); (try clear hb2); (try clear hk); (try clear hi)))
  go_ret
  exact ⟨eW, bW⟩
 ·rw [if_neg c4] at H
  have c4b0 : decide (t461 < 0) = false := decide_eq_false c4
  clear c4
  replace H := Option.bind_eq_some_iff.mp H
  obtain ⟨t462, A100, H⟩ := H
  replace H : (if t462 < 0 then (some true) else ((laws_toAlphabet.f k a0_0 l0_1).bind fun bt463 => ((laws_toAutomaton.f k a1_0 a1_1 a1_2 l1_3).bind fun bt467 => ((spec_HasDiamonds.f k bt463.1 bt463.2 bt467.1 bt467.2.1 bt467.2.2.1 bt467.2.2.2).bind fun bt473 => ((laws_toAlphabet.f k a0_0 l0_1).bind fun bt475 => ((laws_toAutomaton.f k a1_0 a1_1 a1_2 l1_3).bind fun bt480 => ((impl_HasDiamonds.f k bt475.1 bt475.2 bt480.1 bt480.2.1 bt480.2.2.1 bt480.2.2.2).bind fun bt487 => (if (bt487.1 != bt473.1) = true then (laws_FnExactHasDiamonds.j0 k true a0_0 l0_1 a1_0 a1_1 a1_2 l1_3 bt475.1 bt475.2 bt480.1 bt480.2.1 bt480.2.2.1 bt480.2.2.2) else (laws_FnExactHasDiamonds.j0 k (bt487.2 != bt473.2) a0_0 l0_1 a1_0 a1_1 a1_2 l1_3 bt475.1 bt475.2 bt480.1 bt480.2.1 bt480.2.2.1 bt480.2.2.2))))))))) = some r := H
  have A10 := Aside0.mk A100
  clear A100
  by_cases c11 : t462 < 0
  ·rw [if_pos c11] at H
   have c11b0 : decide (t462 < 0) = true := decide_eq_true c11
   clear c11
   obtain rfl := Option.some.inj H
   go_enter Tryd.func5, Tryd.ntmps5
   go_wp2_with (first | ((with_reducible refine gate_dst (N := 2) rfl ?_); refine boxS (N := 2) (cs := #[.int .i64 a0_0, .slice A0_1 l0_1.length c0_1]) (t := 24) ?_; intro gb459 hg w12 hbox hb; have n0_ := Aside0.mk (below_step (bW) hb); have n1_ := Aside0.mk (hbox); have n2_ := geW (w := w) hg; have n3_ := geW (w := w) hg; clear HB; have HB := n0_; have BK459 := n1_; have GW459 := n2_; have GE459 := n3_; clear n0_ n1_ n2_ n3_; clear hb hbox hg) | ((with_reducible refine gate_dst (N := 3) rfl ?_); refine boxS (N := 3) (cs := #[.int .i64 a1_0, .int .i64 a1_1, .int .i64 a1_2, .slice A1_3 l1_3.length c1_3]) (t := 44) ?_; intro gb460 hg w13 hbox hb; have n0_ := Aside0.mk (blkB BK459.out hb); have n1_ := Aside0.mk (below_step (bW) hb); have n2_ := Aside0.mk (hbox); have n3_ := geW (w := w) hg; have n4_ := geW (w := w) hg; have n5_ := Aside0.mk ((by rw [hg]; exact Nat.ne_of_lt (blk_lt (g := gb459) (o := .cells #[.int .i64 a0_0, .slice A0_1 l0_1.length c0_1] 24 (0, 0)) (bP BK459.out)) : gb459 ≠ gb460)); have n6_ := Aside0.mk ((by rw [hg]; exact Nat.ne_of_gt (blk_lt (g := gb459) (o := .cells #[.int .i64 a0_0, .slice A0_1 l0_1.length c0_1] 24 (0, 0)) (bP BK459.out)) : gb460 ≠ gb459)); clear BK459; clear HB; have BK459 := n0_; have HB := n1_; have BK460 := n2_; have GW460 := n3_; have GE460 := n4_; have NB459_460 := n5_; have NB460_459 := n6_; clear n0_ n1_ n2_ n3_ n4_ n5_ n6_; clear hb hbox hg; have hnb14 := NB459_460.out; have hnc14 := NB460_459.out; obtain ⟨hcz15_0, hcz15_1⟩ := cells2 BK459.out; obtain ⟨hfz15_0, hfz15_1⟩ := frz2 BK459.out) | ((with_reducible refine gate_callee (f := 12) rfl ?_); refine goesS (some 14) Tryd.func12 #[.agg #[.int .i64 a0_0, .slice A0_1 l0_1.length c0_1], .int .i64 1048576] ?_; (with_reducible refine (laws_szAlphabet.calls a0_0 _ _ l0_1 1048576 t461 _ ?side1 ?side2 A3.out).mono ?_); (case side1 => exact cP (Kd.C_below HR0_1.out HB.out)); (case side2 => exact HC0_1.out); rintro e w16 ⟨rfl, hb⟩; refine ⟨_, rfl, ?_⟩; have n0_ := Aside0.mk (blkB BK459.out hb); have n1_ := Aside0.mk (blkB BK460.out hb); have n2_ := Aside0.mk (below_step (bW) hb); clear BK459; clear BK460; clear HB; have BK459 := n0_; have BK460 := n1_; have HB := n2_; clear n0_ n1_ n2_; (try clear hb); (try clear hb2); (try clear hk); (try clear hi); obtain ⟨hcz17_0, hcz17_1, hcz17_2, hcz17_3⟩ := cells4 BK460.out; obtain ⟨hfz17_0, hfz17_1, hfz17_2, hfz17_3⟩ := frz4 BK460.out) | ((with_reducible refine gate_callee (f := 25) rfl ?_); refine goesS (some 19) Tryd.func25 #[.agg #[.int .i64 a1_0, .int .i64 a1_1, .int .i64 a1_2, .slice A1_3 l1_3.length c1_3], .int .i64 t461] ?_; (with_reducible refine (laws_szAutomaton.calls k a1_0 a1_1 a1_2 _ _ l1_3 t461 t462 _ ?side1 ?side2 A10.out).mono ?_); (case side1 => exact cP (Kd.C_below HR1_3.out HB.out)); (case side2 => exact HC1_3.out); rintro e w18 ⟨rfl, hb⟩; refine ⟨_, rfl, ?_⟩; have n0_ := Aside0.mk (blkB BK459.out hb); have n1_ := Aside0.mk (blkB BK460.out hb); have n2_ := Aside0.mk (below_step (bW) hb); clear BK459; clear BK460; clear HB; have BK459 := n0_; have BK460 := n1_; have HB := n2_; clear n0_ n1_ n2_; (try clear hb); (try clear hb2); (try clear hk); (try clear hi)))
   go_ret
   exact ⟨eW, bW⟩
  ·rw [if_neg c11] at H
   have c11b0 : decide (t462 < 0) = false := decide_eq_false c11
   clear c11
   replace H := Option.bind_eq_some_iff.mp H
   obtain ⟨⟨t463, t464⟩, A190, H⟩ := H
   replace H : ((laws_toAutomaton.f k a1_0 a1_1 a1_2 l1_3).bind fun bt467 => ((spec_HasDiamonds.f k t463 t464 bt467.1 bt467.2.1 bt467.2.2.1 bt467.2.2.2).bind fun bt473 => ((laws_toAlphabet.f k a0_0 l0_1).bind fun bt475 => ((laws_toAutomaton.f k a1_0 a1_1 a1_2 l1_3).bind fun bt480 => ((impl_HasDiamonds.f k bt475.1 bt475.2 bt480.1 bt480.2.1 bt480.2.2.1 bt480.2.2.2).bind fun bt487 => (if (bt487.1 != bt473.1) = true then (laws_FnExactHasDiamonds.j0 k true a0_0 l0_1 a1_0 a1_1 a1_2 l1_3 bt475.1 bt475.2 bt480.1 bt480.2.1 bt480.2.2.1 bt480.2.2.2) else (laws_FnExactHasDiamonds.j0 k (bt487.2 != bt473.2) a0_0 l0_1 a1_0 a1_1 a1_2 l1_3 bt475.1 bt475.2 bt480.1 bt480.2.1 bt480.2.2.1 bt480.2.2.2))))))) = some r := H
   have A19 := Aside0.mk A190
   clear A190
   replace H := Option.bind_eq_some_iff.mp H
   obtain ⟨⟨t467, t468, t469, t470⟩, A200, H⟩ := H
   replace H : ((spec_HasDiamonds.f k t463 t464 t467 t468 t469 t470).bind fun bt473 => ((laws_toAlphabet.f k a0_0 l0_1).bind fun bt475 => ((laws_toAutomaton.f k a1_0 a1_1 a1_2 l1_3).bind fun bt480 => ((impl_HasDiamonds.f k bt475.1 bt475.2 bt480.1 bt480.2.1 bt480.2.2.1 bt480.2.2.2).bind fun bt487 => (if (bt487.1 != bt473.1) = true then (laws_FnExactHasDiamonds.j0 k true a0_0 l0_1 a1_0 a1_1 a1_2 l1_3 bt475.1 bt475.2 bt480.1 bt480.2.1 bt480.2.2.1 bt480.2.2.2) else (laws_FnExactHasDiamonds.j0 k (bt487.2 != bt473.2) a0_0 l0_1 a1_0 a1_1 a1_2 l1_3 bt475.1 bt475.2 bt480.1 bt480.2.1 bt480.2.2.1 bt480.2.2.2)))))) = some r := H
   have A20 := Aside0.mk A200
   clear A200
   replace H := Option.bind_eq_some_iff.mp H
   obtain ⟨⟨t473, t474⟩, A210, H⟩ := H
   replace H : ((laws_toAlphabet.f k a0_0 l0_1).bind fun bt475 => ((laws_toAutomaton.f k a1_0 a1_1 a1_2 l1_3).bind fun bt480 => ((impl_HasDiamonds.f k bt475.1 bt475.2 bt480.1 bt480.2.1 bt480.2.2.1 bt480.2.2.2).bind fun bt487 => (if (bt487.1 != t473) = true then (laws_FnExactHasDiamonds.j0 k true a0_0 l0_1 a1_0 a1_1 a1_2 l1_3 bt475.1 bt475.2 bt480.1 bt480.2.1 bt480.2.2.1 bt480.2.2.2) else (laws_FnExactHasDiamonds.j0 k (bt487.2 != t474) a0_0 l0_1 a1_0 a1_1 a1_2 l1_3 bt475.1 bt475.2 bt480.1 bt480.2.1 bt480.2.2.1 bt480.2.2.2))))) = some r := H
   have A21 := Aside0.mk A210
   clear A210
   replace H := Option.bind_eq_some_iff.mp H
   obtain ⟨⟨t475, t476⟩, A220, H⟩ := H
   replace H : ((laws_toAutomaton.f k a1_0 a1_1 a1_2 l1_3).bind fun bt480 => ((impl_HasDiamonds.f k t475 t476 bt480.1 bt480.2.1 bt480.2.2.1 bt480.2.2.2).bind fun bt487 => (if (bt487.1 != t473) = true then (laws_FnExactHasDiamonds.j0 k true a0_0 l0_1 a1_0 a1_1 a1_2 l1_3 t475 t476 bt480.1 bt480.2.1 bt480.2.2.1 bt480.2.2.2) else (laws_FnExactHasDiamonds.j0 k (bt487.2 != t474) a0_0 l0_1 a1_0 a1_1 a1_2 l1_3 t475 t476 bt480.1 bt480.2.1 bt480.2.2.1 bt480.2.2.2)))) = some r := H
   have A22 := Aside0.mk A220
   clear A220
   replace H := Option.bind_eq_some_iff.mp H
   obtain ⟨⟨t480, t481, t482, t483⟩, A230, H⟩ := H
   replace H : ((impl_HasDiamonds.f k t475 t476 t480 t481 t482 t483).bind fun bt487 => (if (bt487.1 != t473) = true then (laws_FnExactHasDiamonds.j0 k true a0_0 l0_1 a1_0 a1_1 a1_2 l1_3 t475 t476 t480 t481 t482 t483) else (laws_FnExactHasDiamonds.j0 k (bt487.2 != t474) a0_0 l0_1 a1_0 a1_1 a1_2 l1_3 t475 t476 t480 t481 t482 t483))) = some r := H
   have A23 := Aside0.mk A230
   clear A230
   replace H := Option.bind_eq_some_iff.mp H
   obtain ⟨⟨t487, t488⟩, A240, H⟩ := H
   replace H : (if (t487 != t473) = true then (laws_FnExactHasDiamonds.j0 k true a0_0 l0_1 a1_0 a1_1 a1_2 l1_3 t475 t476 t480 t481 t482 t483) else (laws_FnExactHasDiamonds.j0 k (t488 != t474) a0_0 l0_1 a1_0 a1_1 a1_2 l1_3 t475 t476 t480 t481 t482 t483)) = some r := H
   have A24 := Aside0.mk A240
   clear A240
   have HC25 := Aside0.mk H
   clear H
   go_enter Tryd.func5, Tryd.ntmps5
   try go_wp2_with (first | ((with_reducible refine gate_dst (N := 2) rfl ?_); refine boxS (N := 2) (cs := #[.int .i64 a0_0, .slice A0_1 l0_1.length c0_1]) (t := 24) ?_; intro gb459 hg w26 hbox hb; have n0_ := Aside0.mk (below_step (bW) hb); have n1_ := Aside0.mk (hbox); have n2_ := geW (w := w) hg; have n3_ := geW (w := w) hg; clear HB; have HB := n0_; have BK459 := n1_; have GW459 := n2_; have GE459 := n3_; clear n0_ n1_ n2_ n3_; clear hb hbox hg) | ((with_reducible refine gate_dst (N := 3) rfl ?_); refine boxS (N := 3) (cs := #[.int .i64 a1_0, .int .i64 a1_1, .int .i64 a1_2, .slice A1_3 l1_3.length c1_3]) (t := 44) ?_; intro gb460 hg w27 hbox hb; have n0_ := Aside0.mk (blkB BK459.out hb); have n1_ := Aside0.mk (below_step (bW) hb); have n2_ := Aside0.mk (hbox); have n3_ := geW (w := w) hg; have n4_ := geW (w := w) hg; have n5_ := Aside0.mk ((by rw [hg]; exact Nat.ne_of_lt (blk_lt (g := gb459) (o := .cells #[.int .i64 a0_0, .slice A0_1 l0_1.length c0_1] 24 (0, 0)) (bP BK459.out)) : gb459 ≠ gb460)); have n6_ := Aside0.mk ((by rw [hg]; exact Nat.ne_of_gt (blk_lt (g := gb459) (o := .cells #[.int .i64 a0_0, .slice A0_1 l0_1.length c0_1] 24 (0, 0)) (bP BK459.out)) : gb460 ≠ gb459)); clear BK459; clear HB; have BK459 := n0_; have HB := n1_; have BK460 := n2_; have GW460 := n3_; have GE460 := n4_; have NB459_460 := n5_; have NB460_459 := n6_; clear n0_ n1_ n2_ n3_ n4_ n5_ n6_; clear hb hbox hg; have hnb28 := NB459_460.out; have hnc28 := NB460_459.out; obtain ⟨hcz29_0, hcz29_1⟩ := cells2 BK459.out; obtain ⟨hfz29_0, hfz29_1⟩ := frz2 BK459.out) | ((with_reducible refine gate_callee (f := 12) rfl ?_); refine goesS (some 14) Tryd.func12 #[.agg #[.int .i64 a0_0, .slice A0_1 l0_1.length c0_1], .int .i64 1048576] ?_; (with_reducible refine (laws_szAlphabet.calls a0_0 _ _ l0_1 1048576 t461 _ ?side1 ?side2 A3.out).mono ?_); (case side1 => exact cP (Kd.C_below HR0_1.out HB.out)); (case side2 => exact HC0_1.out); rintro e w30 ⟨rfl, hb⟩; refine ⟨_, rfl, ?_⟩; have n0_ := Aside0.mk (blkB BK459.out hb); have n1_ := Aside0.mk (blkB BK460.out hb); have n2_ := Aside0.mk (below_step (bW) hb); clear BK459; clear BK460; clear HB; have BK459 := n0_; have BK460 := n1_; have HB := n2_; clear n0_ n1_ n2_; (try clear hb); (try clear hb2); (try clear hk); (try clear hi); obtain ⟨hcz31_0, hcz31_1, hcz31_2, hcz31_3⟩ := cells4 BK460.out; obtain ⟨hfz31_0, hfz31_1, hfz31_2, hfz31_3⟩ := frz4 BK460.out) | ((with_reducible refine gate_callee (f := 25) rfl ?_); refine goesS (some 19) Tryd.func25 #[.agg #[.int .i64 a1_0, .int .i64 a1_1, .int .i64 a1_2, .slice A1_3 l1_3.length c1_3], .int .i64 t461] ?_; (with_reducible refine (laws_szAutomaton.calls k a1_0 a1_1 a1_2 _ _ l1_3 t461 t462 _ ?side1 ?side2 A10.out).mono ?_); (case side1 => exact cP (Kd.C_below HR1_3.out HB.out)); (case side2 => exact HC1_3.out); rintro e w32 ⟨rfl, hb⟩; refine ⟨_, rfl, ?_⟩; have n0_ := Aside0.mk (blkB BK459.out hb); have n1_ := Aside0.mk (blkB BK460.out hb); have n2_ := Aside0.mk (below_step (bW) hb); clear BK459; clear BK460; clear HB; have BK459 := n0_; have BK460 := n1_; have HB := n2_; clear n0_ n1_ n2_; (try clear hb); (try clear hb2); (try clear hk); (try clear hi)))
   have n0_ := Aside0.mk (blk_drew BK459.out)
   have n1_ := Aside0.mk (blk_drew BK460.out)
   have n2_ := Aside0.mk (below_drew1 HB.out)
   clear BK459
   clear BK460
   clear HB
   have BK459 := n0_
   have BK460 := n1_
   have HB := n2_
   clear n0_ n1_ n2_
   refine start_ (n := 10) (S := fun w' => w'.cell? ⟨gb459, 0, none⟩ = some (.int .i64 a0_0) ∧ w'.cell? ⟨gb459, 1, none⟩ = some (.slice A0_1 l0_1.length c0_1) ∧ w'.cell? ⟨gb460, 0, none⟩ = some (.int .i64 a1_0) ∧ w'.cell? ⟨gb460, 1, none⟩ = some (.int .i64 a1_1) ∧ w'.cell? ⟨gb460, 2, none⟩ = some (.int .i64 a1_2) ∧ w'.cell? ⟨gb460, 3, none⟩ = some (.slice A1_3 l1_3.length c1_3)) (ds := []) #[false, false, false, false, false, false, false, false, false, false] (by kernel_rfl) rfl rfl ⟨(blk_cell BK459.out 0).trans rfl, (blk_cell BK459.out 1).trans rfl, (blk_cell BK460.out 0).trans rfl, (blk_cell BK460.out 1).trans rfl, (blk_cell BK460.out 2).trans rfl, (blk_cell BK460.out 3).trans rfl⟩ (fun hHeld => ?_); refine with_tabW laws_FnExactHasDiamonds.tab8 laws_FnExactHasDiamonds.bits8 (fun HT_ HW_ => ?_)
   generalize w32.drew = w33 at BK459 BK460 HB hHeld ⊢
   refine takeS (i := 0) (N := some 23) (take_ofW HT_.out HW_.out (by kernel_rfl)) hHeld ?_
   refine takeS (i := 2) (N := some 25) (take_ofW HT_.out HW_.out (by kernel_rfl)) hHeld ?_
   refine one_ (i := 1) (N := some 24) #[true, true, true, false, false, false, false, false, false, false] rfl rfl (one_of HT_.out (by kernel_rfl)) (by decide) (fun K hK => ?_)
   refine goes_ Tryd.func15 (by kernel_rfl) rfl #[.agg #[.int .i64 a0_0, .slice A0_1 l0_1.length c0_1]] (by rfl) rfl rfl (by (try simp only [List.map_toArray, List.map_cons, List.map_nil]); first | done | rfl | (simp only [List.length_drop, List.length_take]; rfl)) ?_
   with_reducible refine (laws_toAlphabet.calls k a0_0 _ _ l0_1 t463 t464 _ ?side1 ?side2 A19.out).mono ?_
   (case side1 => exact cP (Kd.C_below HR0_1.out HB.out))
   (case side2 => exact HC0_1.out)
   rintro e w34 ⟨v465, rfl, ho0, hb⟩
   refine ⟨_, rfl, ?_⟩
   have n0_ := Aside0.mk (Kd.R_lower ho0 (below_size (bW)))
   have n1_ := Aside0.mk (blkB BK459.out hb)
   have n2_ := Aside0.mk (blkB BK460.out hb)
   have n3_ := Aside0.mk (below_step (bW) hb)
   clear BK459
   clear BK460
   clear HB
   have HO466 := n0_
   have BK459 := n1_
   have BK460 := n2_
   have HB := n3_
   clear n0_ n1_ n2_ n3_
   (try clear hb)
   (try clear hb2)
   (try clear hk)
   (try clear hi)
   (try clear ho0)
   refine hK.out _ _ ⟨(blk_cell BK459.out 0).trans rfl, (blk_cell BK459.out 1).trans rfl, (blk_cell BK460.out 0).trans rfl, (blk_cell BK460.out 1).trans rfl, (blk_cell BK460.out 2).trans rfl, (blk_cell BK460.out 3).trans rfl⟩ (fun hHeld => ?_)
   clear hK K
   refine norm_ (a' := ?_) ?_ ?_
   rotate_left
   ·show Act.put _ (some 24) _ = _
    simp only [Act.put, List.setIfInBounds_toArray, List.set_cons_zero, List.set_cons_succ, i64_w, i32_w]
    rfl
   refine one_ (i := 3) (N := some 26) #[true, true, true, true, false, false, false, false, false, false] rfl rfl (one_of HT_.out (by kernel_rfl)) (by decide) (fun K hK => ?_)
   refine goes_ Tryd.func27 (by kernel_rfl) rfl #[.agg #[.int .i64 a1_0, .int .i64 a1_1, .int .i64 a1_2, .slice A1_3 l1_3.length c1_3]] (by rfl) rfl rfl (by (try simp only [List.map_toArray, List.map_cons, List.map_nil]); first | done | rfl | (simp only [List.length_drop, List.length_take]; rfl)) ?_
   with_reducible refine (laws_toAutomaton.calls k a1_0 a1_1 a1_2 _ _ l1_3 t467 t468 t469 t470 _ ?side1 ?side2 A20.out).mono ?_
   (case side1 => exact cP (Kd.C_below HR1_3.out HB.out))
   (case side2 => exact HC1_3.out)
   rintro e w35 ⟨v471, rfl, ho0, hb⟩
   refine ⟨_, rfl, ?_⟩
   have n0_ := Aside0.mk (Kd.R_below (rP HO466.out) hb)
   have n1_ := Aside0.mk (Kd.S_lower (Kd.S_new' ho0 (Kd.R_lt (rP HO466.out))) (below_size (bW)))
   have n2_ := Aside0.mk (blkB BK459.out hb)
   have n3_ := Aside0.mk (blkB BK460.out hb)
   have n4_ := Aside0.mk (below_step (bW) hb)
   clear HO466
   clear BK459
   clear BK460
   clear HB
   have HO466 := n0_
   have HO472 := n1_
   have BK459 := n2_
   have BK460 := n3_
   have HB := n4_
   clear n0_ n1_ n2_ n3_ n4_
   (try clear hb)
   (try clear hb2)
   (try clear hk)
   (try clear hi)
   (try clear ho0)
   obtain ⟨Ao36, co36, eo36⟩ := Kd.R_slice HO466.out
   (first | subst eo36 | (injection eo36 with f1_ f2_ f3_; have f4_ := f1_.symm; have f5_ := f3_.symm; clear f1_ f2_ f3_; subst f4_; subst f5_))
   obtain ⟨Ao37, co37, eo37⟩ := Kd.S_slice HO472.out
   (first | subst eo37 | (injection eo37 with f1_ f2_ f3_; have f4_ := f1_.symm; have f5_ := f3_.symm; clear f1_ f2_ f3_; subst f4_; subst f5_))
   refine hK.out _ _ ⟨(blk_cell BK459.out 0).trans rfl, (blk_cell BK459.out 1).trans rfl, (blk_cell BK460.out 0).trans rfl, (blk_cell BK460.out 1).trans rfl, (blk_cell BK460.out 2).trans rfl, (blk_cell BK460.out 3).trans rfl⟩ (fun hHeld => ?_)
   clear hK K
   refine norm_ (a' := ?_) ?_ ?_
   rotate_left
   ·show Act.put _ (some 26) _ = _
    simp only [Act.put, List.setIfInBounds_toArray, List.set_cons_zero, List.set_cons_succ, i64_w, i32_w]
    rfl
   refine one_ (i := 4) (N := some 27) #[true, true, true, true, true, false, false, false, false, false] rfl rfl (one_of HT_.out (by kernel_rfl)) (by decide) (fun K hK => ?_)
   refine goes_ Tryd.func26 (by kernel_rfl) rfl #[.agg #[.int .i64 t463, .slice Ao36 t464.length co36], .agg #[.int .i64 t467, .int .i64 t468, .int .i64 t469, .slice Ao37 t470.length co37]] (by rfl) rfl rfl (by (try simp only [List.map_toArray, List.map_cons, List.map_nil]); first | done | rfl | (simp only [List.length_drop, List.length_take]; rfl)) ?_
   with_reducible refine (spec_HasDiamonds.calls k t463 _ _ t464 t467 t468 t469 _ _ t470 t473 t474 _ ?side1 ?side2 ?side3 ?side4 A21.out).mono ?_
   (case side1 => exact cP ((Kd.R_reads' HO466.out).2.2))
   (case side2 => exact (Kd.R_reads' HO466.out).2.1)
   (case side3 => exact cP ((Kd.S_reads' HO472.out).2.2))
   (case side4 => exact (Kd.S_reads' HO472.out).2.1)
   rintro e w38 ⟨rfl, hb⟩
   refine ⟨_, rfl, ?_⟩
   have n0_ := Aside0.mk (Kd.R_below (rP HO466.out) hb)
   have n1_ := Aside0.mk (Kd.S_below (sP HO472.out) hb)
   have n2_ := Aside0.mk (blkB BK459.out hb)
   have n3_ := Aside0.mk (blkB BK460.out hb)
   have n4_ := Aside0.mk (below_step (bW) hb)
   clear HO466
   clear HO472
   clear BK459
   clear BK460
   clear HB
   have HO466 := n0_
   have HO472 := n1_
   have BK459 := n2_
   have BK460 := n3_
   have HB := n4_
   clear n0_ n1_ n2_ n3_ n4_
   (try clear hb)
   (try clear hb2)
   (try clear hk)
   (try clear hi)
   refine hK.out _ _ ⟨(blk_cell BK459.out 0).trans rfl, (blk_cell BK459.out 1).trans rfl, (blk_cell BK460.out 0).trans rfl, (blk_cell BK460.out 1).trans rfl, (blk_cell BK460.out 2).trans rfl, (blk_cell BK460.out 3).trans rfl⟩ (fun hHeld => ?_)
   clear hK K
   refine norm_ (a' := ?_) ?_ ?_
   rotate_left
   ·show Act.put _ (some 27) _ = _
    simp only [Act.put, List.setIfInBounds_toArray, List.set_cons_zero, List.set_cons_succ, i64_w, i32_w]
    rfl
   refine pureS (i := 5) (N := some 22) (any_of HT_.out (by kernel_rfl)) ?_
   refine pureS (i := 6) (N := some 28) (any_of HT_.out (by kernel_rfl)) ?_
   refine pureS (i := 7) (N := some 29) (any_of HT_.out (by kernel_rfl)) ?_
   refine pureS (i := 8) (N := some 6) (any_of HT_.out (by kernel_rfl)) ?_
   refine pureS (i := 9) (N := some 7) (any_of HT_.out (by kernel_rfl)) ?_
   refine done_ (done_of HT_.out (by kernel_rfl)) ?_
   have hcz39_0 : w38.cell? ⟨gb459, 0, none⟩ = some (.int .i64 a0_0) := (blk_cell BK459.out 0).trans rfl
   have hcz39_1 : w38.cell? ⟨gb459, 1, none⟩ = some (.slice A0_1 l0_1.length c0_1) := (blk_cell BK459.out 1).trans rfl
   have hfz39_0 := blk_frozen BK459.out 0
   have hfz39_1 := blk_frozen BK459.out 1
   go_upto_region 12 with (first | ((with_reducible refine gate_callee (f := 15) rfl ?_); refine goesS (some 31) Tryd.func15 #[.agg #[.int .i64 a0_0, .slice A0_1 l0_1.length c0_1]] ?_; (with_reducible refine (laws_toAlphabet.calls k a0_0 _ _ l0_1 t475 t476 _ ?side1 ?side2 A22.out).mono ?_); (case side1 => exact cP (Kd.C_below HR0_1.out HB.out)); (case side2 => exact HC0_1.out); rintro e w40 ⟨v477, rfl, ho0, hb⟩; refine ⟨_, rfl, ?_⟩; have n0_ := Aside0.mk (Kd.R_elder' (rP HO466.out) (Kd.R_base ho0) hb); have n1_ := Aside0.mk (Kd.S_elder' (sP HO472.out) (Kd.R_base ho0) hb); have n2_ := Aside0.mk (Kd.R_lower (Kd.R_new' ho0 (Kd.R_lt (rP HO466.out))) (below_size (bW))); have n3_ := Aside0.mk (blkB BK459.out hb); have n4_ := Aside0.mk (blkB BK460.out hb); have n5_ := Aside0.mk (below_step (bW) hb); clear HO466; clear HO472; clear BK459; clear BK460; clear HB; have HO466 := n0_; have HO472 := n1_; have HO478 := n2_; have BK459 := n3_; have BK460 := n4_; have HB := n5_; clear n0_ n1_ n2_ n3_ n4_ n5_; (try clear hb); (try clear hb2); (try clear hk); (try clear hi); (try clear ho0)) | ((with_reducible refine gate_dst (N := 8) rfl ?_); refine boxS (N := 8) (cs := #[.int .i64 0, .slice none 0 0]) (t := 29) ?_; intro gb479 hg w41 hbox hb; have n0_ := Aside0.mk (Kd.R_below (rP HO466.out) hb); have n1_ := Aside0.mk (Kd.S_below (sP HO472.out) hb); have n2_ := Aside0.mk (Kd.R_below (rP HO478.out) hb); have n3_ := Aside0.mk (blkB BK459.out hb); have n4_ := Aside0.mk (blkB BK460.out hb); have n5_ := Aside0.mk (below_step (bW) hb); have n6_ := Aside0.mk (hbox); have n7_ := geW (w := w) hg; have n8_ := geW (w := w) hg; have n9_ := Aside0.mk ((by rw [hg]; exact Nat.ne_of_lt (blk_lt (g := gb459) (o := .cells #[.int .i64 a0_0, .slice A0_1 l0_1.length c0_1] 24 (0, 0)) (bP BK459.out)) : gb459 ≠ gb479)); have n10_ := Aside0.mk ((by rw [hg]; exact Nat.ne_of_gt (blk_lt (g := gb459) (o := .cells #[.int .i64 a0_0, .slice A0_1 l0_1.length c0_1] 24 (0, 0)) (bP BK459.out)) : gb479 ≠ gb459)); have n11_ := Aside0.mk ((by rw [hg]; exact Nat.ne_of_lt (blk_lt (g := gb460) (o := .cells #[.int .i64 a1_0, .int .i64 a1_1, .int .i64 a1_2, .slice A1_3 l1_3.length c1_3] 44 (0, 0)) (bP BK460.out)) : gb460 ≠ gb479)); have n12_ := Aside0.mk ((by rw [hg]; exact Nat.ne_of_gt (blk_lt (g := gb460) (o := .cells #[.int .i64 a1_0, .int .i64 a1_1, .int .i64 a1_2, .slice A1_3 l1_3.length c1_3] 44 (0, 0)) (bP BK460.out)) : gb479 ≠ gb460)); clear HO466; clear HO472; clear HO478; clear BK459; clear BK460; clear HB; have HO466 := n0_; have HO472 := n1_; have HO478 := n2_; have BK459 := n3_; have BK460 := n4_; have HB := n5_; have BK479 := n6_; have GW479 := n7_; have GE479 := n8_; have NB459_479 := n9_; have NB479_459 := n10_; have NB460_479 := n11_; have NB479_460 := n12_; clear n0_ n1_ n2_ n3_ n4_ n5_ n6_ n7_ n8_ n9_ n10_ n11_ n12_; clear hb hbox hg; have hnb42 := NB479_459.out; have hnc42 := NB459_479.out; have hnb43 := NB479_460.out; have hnc43 := NB460_479.out; obtain ⟨hcz44_0, hcz44_1⟩ := cells2 BK479.out; obtain ⟨hfz44_0, hfz44_1⟩ := frz2 BK479.out; obtain ⟨Ao45, co45, eo45⟩ := Kd.R_slice HO478.out; subst eo45; obtain ⟨hcz46_0, hcz46_1, hcz46_2, hcz46_3⟩ := cells4 BK460.out; obtain ⟨hfz46_0, hfz46_1, hfz46_2, hfz46_3⟩ := frz4 BK460.out) | ((with_reducible refine gate_callee (f := 27) rfl ?_); refine goesS (some 33) Tryd.func27 #[.agg #[.int .i64 a1_0, .int .i64 a1_1, .int .i64 a1_2, .slice A1_3 l1_3.length c1_3]] ?_; (with_reducible refine (laws_toAutomaton.calls k a1_0 a1_1 a1_2 _ _ l1_3 t480 t481 t482 t483 _ ?side1 ?side2 A23.out).mono ?_); (case side1 => exact Kd.C_below HR1_3.out (bW)); (case side2 => exact HC1_3.out); rintro e w47 ⟨v484, rfl, ho0, hb⟩; refine ⟨_, rfl, ?_⟩; have n0_ := Aside0.mk (Kd.R_below (by (with_reducible repeat (first | apply Kd.R_alloc | apply Kd.R_drewN | apply Kd.R_drew)); exact (Kd.R_mono (Kd.R_far (p := ⟨gb479, 1, none⟩) (Kd.R_far (p := ⟨gb479, 0, none⟩) (Kd.R_types HO466.out BK479.out (by decide)) (fun _ hk => hk.2) (.int .i64 t475)) (fun _ hk => hk.2) (.slice Ao45 t476.length co45)) (fun _ h_ => h_.1))) hb); have n1_ := Aside0.mk (Kd.S_elder' (by (with_reducible repeat (first | apply Kd.S_alloc | apply Kd.S_drewN | apply Kd.S_drew)); exact (Kd.S_mono (Kd.S_far (p := ⟨gb479, 1, none⟩) (Kd.S_far (p := ⟨gb479, 0, none⟩) (Kd.S_types HO472.out BK479.out (by decide)) (fun _ hk => hk.2) (.int .i64 t475)) (fun _ hk => hk.2) (.slice Ao45 t476.length co45)) (fun _ h_ => h_.1))) (Kd.S_base ho0) hb); have n2_ := Aside0.mk (Kd.R_below (by (with_reducible repeat (first | apply Kd.R_alloc | apply Kd.R_drewN | apply Kd.R_drew)); exact (Kd.R_mono (Kd.R_far (p := ⟨gb479, 1, none⟩) (Kd.R_far (p := ⟨gb479, 0, none⟩) (Kd.R_types HO478.out BK479.out (by decide)) (fun _ hk => hk.2) (.int .i64 t475)) (fun _ hk => hk.2) (.slice Ao45 t476.length co45)) (fun _ h_ => h_.1))) hb); have n3_ := Aside0.mk (Kd.S_lower (Kd.S_new' (Kd.S_new' (Kd.S_new' ho0 (Kd.R_lt (by (with_reducible repeat (first | apply Kd.R_alloc | apply Kd.R_drewN | apply Kd.R_drew)); exact (Kd.R_mono (Kd.R_far (p := ⟨gb479, 1, none⟩) (Kd.R_far (p := ⟨gb479, 0, none⟩) (Kd.R_types HO466.out BK479.out (by decide)) (fun _ hk => hk.2) (.int .i64 t475)) (fun _ hk => hk.2) (.slice Ao45 t476.length co45)) (fun _ h_ => h_.1))))) (Kd.S_lt (by (with_reducible repeat (first | apply Kd.S_alloc | apply Kd.S_drewN | apply Kd.S_drew)); exact (Kd.S_mono (Kd.S_far (p := ⟨gb479, 1, none⟩) (Kd.S_far (p := ⟨gb479, 0, none⟩) (Kd.S_types HO472.out BK479.out (by decide)) (fun _ hk => hk.2) (.int .i64 t475)) (fun _ hk => hk.2) (.slice Ao45 t476.length co45)) (fun _ h_ => h_.1))))) (Kd.R_lt (by (with_reducible repeat (first | apply Kd.R_alloc | apply Kd.R_drewN | apply Kd.R_drew)); exact (Kd.R_mono (Kd.R_far (p := ⟨gb479, 1, none⟩) (Kd.R_far (p := ⟨gb479, 0, none⟩) (Kd.R_types HO478.out BK479.out (by decide)) (fun _ hk => hk.2) (.int .i64 t475)) (fun _ hk => hk.2) (.slice Ao45 t476.length co45)) (fun _ h_ => h_.1))))) (below_size (bW))); have n4_ := Aside0.mk (blk_below (g := gb459) (o := .cells #[.int .i64 a0_0, .slice A0_1 l0_1.length c0_1] 24 (0, 0)) (by (with_reducible repeat (first | refine blk_drewN ?_ _ | refine blk_drew ?_ | refine blk_alloc ?_ _)); refine blk_far ?_ NB459_479.out _; (with_reducible repeat (first | refine blk_drewN ?_ _ | refine blk_drew ?_ | refine blk_alloc ?_ _)); refine blk_far ?_ NB459_479.out _; exact bP BK459.out) hb); have n5_ := Aside0.mk (blk_below (g := gb460) (o := .cells #[.int .i64 a1_0, .int .i64 a1_1, .int .i64 a1_2, .slice A1_3 l1_3.length c1_3] 44 (0, 0)) (by (with_reducible repeat (first | refine blk_drewN ?_ _ | refine blk_drew ?_ | refine blk_alloc ?_ _)); refine blk_far ?_ NB460_479.out _; (with_reducible repeat (first | refine blk_drewN ?_ _ | refine blk_drew ?_ | refine blk_alloc ?_ _)); refine blk_far ?_ NB460_479.out _; exact bP BK460.out) hb); have n6_ := Aside0.mk (blk_below (g := gb479) (o := .cells #[.int .i64 t475, .slice Ao45 t476.length co45] 29 (0, 0)) (by (with_reducible repeat (first | refine blk_drewN ?_ _ | refine blk_drew ?_ | refine blk_alloc ?_ _)); refine blk_put (cs := #[.int .i64 t475, .slice none 0 0]) ?_ 1 _ rfl; (with_reducible repeat (first | refine blk_drewN ?_ _ | refine blk_drew ?_ | refine blk_alloc ?_ _)); refine blk_put (cs := #[.int .i64 0, .slice none 0 0]) ?_ 0 _ rfl; exact bP BK479.out) hb); have n7_ := Aside0.mk (below_step (bW) hb); clear HO466; clear HO472; clear HO478; clear BK459; clear BK460; clear BK479; clear HB; have HO466 := n0_; have HO472 := n1_; have HO478 := n2_; have HO485 := n3_; have BK459 := n4_; have BK460 := n5_; have BK479 := n6_; have HB := n7_; clear n0_ n1_ n2_ n3_ n4_ n5_ n6_ n7_; (try clear hb); (try clear hb2); (try clear hk); (try clear hi); (try clear ho0)) | ((with_reducible refine gate_dst (N := 9) rfl ?_); refine boxS (N := 9) (cs := #[.int .i64 0, .int .i64 0, .int .i64 0, .slice none 0 0]) (t := 48) ?_; intro gb486 hg w48 hbox hb; have n0_ := Aside0.mk (Kd.R_below (rP HO466.out) hb); have n1_ := Aside0.mk (Kd.S_below (sP HO472.out) hb); have n2_ := Aside0.mk (Kd.R_below (rP HO478.out) hb); have n3_ := Aside0.mk (Kd.S_below (sP HO485.out) hb); have n4_ := Aside0.mk (blkB BK459.out hb); have n5_ := Aside0.mk (blkB BK460.out hb); have n6_ := Aside0.mk (blkB BK479.out hb); have n7_ := Aside0.mk (below_step (bW) hb); have n8_ := Aside0.mk (hbox); have n9_ := geW (w := w) hg; have n10_ := geW (w := w) hg; have n11_ := Aside0.mk ((by rw [hg]; exact Nat.ne_of_lt (blk_lt (g := gb459) (o := .cells #[.int .i64 a0_0, .slice A0_1 l0_1.length c0_1] 24 (0, 0)) (bP BK459.out)) : gb459 ≠ gb486)); have n12_ := Aside0.mk ((by rw [hg]; exact Nat.ne_of_gt (blk_lt (g := gb459) (o := .cells #[.int .i64 a0_0, .slice A0_1 l0_1.length c0_1] 24 (0, 0)) (bP BK459.out)) : gb486 ≠ gb459)); have n13_ := Aside0.mk ((by rw [hg]; exact Nat.ne_of_lt (blk_lt (g := gb460) (o := .cells #[.int .i64 a1_0, .int .i64 a1_1, .int .i64 a1_2, .slice A1_3 l1_3.length c1_3] 44 (0, 0)) (bP BK460.out)) : gb460 ≠ gb486)); have n14_ := Aside0.mk ((by rw [hg]; exact Nat.ne_of_gt (blk_lt (g := gb460) (o := .cells #[.int .i64 a1_0, .int .i64 a1_1, .int .i64 a1_2, .slice A1_3 l1_3.length c1_3] 44 (0, 0)) (bP BK460.out)) : gb486 ≠ gb460)); have n15_ := Aside0.mk ((by rw [hg]; exact Nat.ne_of_lt (blk_lt (g := gb479) (o := .cells #[.int .i64 t475, .slice Ao45 t476.length co45] 29 (0, 0)) (bP BK479.out)) : gb479 ≠ gb486)); have n16_ := Aside0.mk ((by rw [hg]; exact Nat.ne_of_gt (blk_lt (g := gb479) (o := .cells #[.int .i64 t475, .slice Ao45 t476.length co45] 29 (0, 0)) (bP BK479.out)) : gb486 ≠ gb479)); clear HO466; clear HO472; clear HO478; clear HO485; clear BK459; clear BK460; clear BK479; clear HB; have HO466 := n0_; have HO472 := n1_; have HO478 := n2_; have HO485 := n3_; have BK459 := n4_; have BK460 := n5_; have BK479 := n6_; have HB := n7_; have BK486 := n8_; have GW486 := n9_; have GE486 := n10_; have NB459_486 := n11_; have NB486_459 := n12_; have NB460_486 := n13_; have NB486_460 := n14_; have NB479_486 := n15_; have NB486_479 := n16_; clear n0_ n1_ n2_ n3_ n4_ n5_ n6_ n7_ n8_ n9_ n10_ n11_ n12_ n13_ n14_ n15_ n16_; clear hb hbox hg; have hnb49 := NB486_459.out; have hnc49 := NB459_486.out; have hnb50 := NB486_460.out; have hnc50 := NB460_486.out; have hnb51 := NB486_479.out; have hnc51 := NB479_486.out; obtain ⟨hcz52_0, hcz52_1, hcz52_2, hcz52_3⟩ := cells4 BK486.out; obtain ⟨hfz52_0, hfz52_1, hfz52_2, hfz52_3⟩ := frz4 BK486.out; obtain ⟨Ao53, co53, eo53⟩ := Kd.S_slice HO485.out; subst eo53) | ((with_reducible refine gate_store (t := 48) (p := 9) rfl ?_); refine store_event (t := 48) (p := 9) (v := ?vo_w54) (w1 := ((((w48.setCell ⟨gb486, 0, none⟩ (.int .i64 t480)).setCell ⟨gb486, 1, none⟩ (.int .i64 t481)).setCell ⟨gb486, 2, none⟩ (.int .i64 t482)).setCell ⟨gb486, 3, none⟩ (.slice Ao53 t483.length co53))) ?hg ?ho ?hn ?hr ?_; (case ho => rfl); (case hg => rfl); (case hn => rfl); (case hr => first | (go_simp; done) | (go_simp; rfl)); intro w54 hw; have n0_ : Aside0 (Kd.R (Kd.int .i64) 2 w54 w.heap.size (fun k_ => some k_ ≠ (.slice Ao45 t476.length co45 : Value).ownBlock) (.slice Ao36 t464.length co36) t464) := ⟨(by rw [hw]; exact (by (with_reducible repeat (first | apply Kd.R_alloc | apply Kd.R_drewN | apply Kd.R_drew)); exact Kd.R_mono (Kd.R_far (p := ⟨gb486, 3, none⟩) (Kd.R_far (p := ⟨gb486, 2, none⟩) (Kd.R_far (p := ⟨gb486, 1, none⟩) (Kd.R_far (p := ⟨gb486, 0, none⟩) (Kd.R_types HO466.out BK486.out (by decide)) (fun _ hk => hk.2) (.int .i64 t480)) (fun _ hk => hk.2) (.int .i64 t481)) (fun _ hk => hk.2) (.int .i64 t482)) (fun _ hk => hk.2) (.slice Ao53 t483.length co53)) (fun _ hk => hk.1.2)))⟩; have n1_ : Aside0 (Kd.S (Kd.slice 2 (Kd.int .i64)) 22 w54 w.heap.size (fun k_ => some k_ ≠ (.slice Ao36 t464.length co36 : Value).ownBlock ∧ some k_ ≠ (.slice Ao45 t476.length co45 : Value).ownBlock ∧ some k_ ≠ (.slice Ao53 t483.length co53 : Value).ownBlock) (.slice Ao37 t470.length co37) t470) := ⟨(by rw [hw]; exact (by (with_reducible repeat (first | apply Kd.S_alloc | apply Kd.S_drewN | apply Kd.S_drew)); exact Kd.S_mono (Kd.S_far (p := ⟨gb486, 3, none⟩) (Kd.S_far (p := ⟨gb486, 2, none⟩) (Kd.S_far (p := ⟨gb486, 1, none⟩) (Kd.S_far (p := ⟨gb486, 0, none⟩) (Kd.S_types HO472.out BK486.out (by decide)) (fun _ hk => hk.2) (.int .i64 t480)) (fun _ hk => hk.2) (.int .i64 t481)) (fun _ hk => hk.2) (.int .i64 t482)) (fun _ hk => hk.2) (.slice Ao53 t483.length co53)) (fun _ hk => ⟨hk.1.1.1.2, ⟨hk.1.1.2, hk.1.2⟩⟩)))⟩; have n2_ : Aside0 (Kd.R (Kd.int .i64) 2 w54 w.heap.size (fun k_ => some k_ ≠ (.slice Ao36 t464.length co36 : Value).ownBlock) (.slice Ao45 t476.length co45) t476) := ⟨(by rw [hw]; exact (by (with_reducible repeat (first | apply Kd.R_alloc | apply Kd.R_drewN | apply Kd.R_drew)); exact Kd.R_mono (Kd.R_far (p := ⟨gb486, 3, none⟩) (Kd.R_far (p := ⟨gb486, 2, none⟩) (Kd.R_far (p := ⟨gb486, 1, none⟩) (Kd.R_far (p := ⟨gb486, 0, none⟩) (Kd.R_types HO478.out BK486.out (by decide)) (fun _ hk => hk.2) (.int .i64 t480)) (fun _ hk => hk.2) (.int .i64 t481)) (fun _ hk => hk.2) (.int .i64 t482)) (fun _ hk => hk.2) (.slice Ao53 t483.length co53)) (fun _ hk => hk.1.2)))⟩; have n3_ : Aside0 (Kd.S (Kd.slice 2 (Kd.int .i64)) 22 w54 w.heap.size (fun k_ => some k_ ≠ (.slice Ao36 t464.length co36 : Value).ownBlock ∧ some k_ ≠ (.slice Ao37 t470.length co37 : Value).ownBlock ∧ some k_ ≠ (.slice Ao45 t476.length co45 : Value).ownBlock) (.slice Ao53 t483.length co53) t483) := ⟨(by rw [hw]; exact (by (with_reducible repeat (first | apply Kd.S_alloc | apply Kd.S_drewN | apply Kd.S_drew)); exact Kd.S_mono (Kd.S_far (p := ⟨gb486, 3, none⟩) (Kd.S_far (p := ⟨gb486, 2, none⟩) (Kd.S_far (p := ⟨gb486, 1, none⟩) (Kd.S_far (p := ⟨gb486, 0, none⟩) (Kd.S_types HO485.out BK486.out (by decide)) (fun _ hk => hk.2) (.int .i64 t480)) (fun _ hk => hk.2) (.int .i64 t481)) (fun _ hk => hk.2) (.int .i64 t482)) (fun _ hk => hk.2) (.slice Ao53 t483.length co53)) (fun _ hk => ⟨hk.1.1.1.2, ⟨hk.1.1.2, hk.1.2⟩⟩)))⟩; have n4_ : Aside0 (w54.heap[gb459]? = some (.cells #[.int .i64 a0_0, .slice A0_1 l0_1.length c0_1] 24 (0, 0))) := ⟨(by rw [hw]; exact (by (with_reducible repeat (first | refine blk_drewN ?_ _ | refine blk_drew ?_ | refine blk_alloc ?_ _)); refine blk_far ?_ NB459_486.out _; (with_reducible repeat (first | refine blk_drewN ?_ _ | refine blk_drew ?_ | refine blk_alloc ?_ _)); refine blk_far ?_ NB459_486.out _; (with_reducible repeat (first | refine blk_drewN ?_ _ | refine blk_drew ?_ | refine blk_alloc ?_ _)); refine blk_far ?_ NB459_486.out _; (with_reducible repeat (first | refine blk_drewN ?_ _ | refine blk_drew ?_ | refine blk_alloc ?_ _)); refine blk_far ?_ NB459_486.out _; exact bP BK459.out))⟩; have n5_ : Aside0 (w54.heap[gb460]? = some (.cells #[.int .i64 a1_0, .int .i64 a1_1, .int .i64 a1_2, .slice A1_3 l1_3.length c1_3] 44 (0, 0))) := ⟨(by rw [hw]; exact (by (with_reducible repeat (first | refine blk_drewN ?_ _ | refine blk_drew ?_ | refine blk_alloc ?_ _)); refine blk_far ?_ NB460_486.out _; (with_reducible repeat (first | refine blk_drewN ?_ _ | refine blk_drew ?_ | refine blk_alloc ?_ _)); refine blk_far ?_ NB460_486.out _; (with_reducible repeat (first | refine blk_drewN ?_ _ | refine blk_drew ?_ | refine blk_alloc ?_ _)); refine blk_far ?_ NB460_486.out _; (with_reducible repeat (first | refine blk_drewN ?_ _ | refine blk_drew ?_ | refine blk_alloc ?_ _)); refine blk_far ?_ NB460_486.out _; exact bP BK460.out))⟩; have n6_ : Aside0 (w54.heap[gb479]? = some (.cells #[.int .i64 t475, .slice Ao45 t476.length co45] 29 (0, 0))) := ⟨(by rw [hw]; exact (by (with_reducible repeat (first | refine blk_drewN ?_ _ | refine blk_drew ?_ | refine blk_alloc ?_ _)); refine blk_far ?_ NB479_486.out _; (with_reducible repeat (first | refine blk_drewN ?_ _ | refine blk_drew ?_ | refine blk_alloc ?_ _)); refine blk_far ?_ NB479_486.out _; (with_reducible repeat (first | refine blk_drewN ?_ _ | refine blk_drew ?_ | refine blk_alloc ?_ _)); refine blk_far ?_ NB479_486.out _; (with_reducible repeat (first | refine blk_drewN ?_ _ | refine blk_drew ?_ | refine blk_alloc ?_ _)); refine blk_far ?_ NB479_486.out _; exact bP BK479.out))⟩; have n7_ : Aside0 (w54.heap[gb486]? = some (.cells #[.int .i64 t480, .int .i64 t481, .int .i64 t482, .slice Ao53 t483.length co53] 48 (0, 0))) := ⟨(by rw [hw]; exact (by (with_reducible repeat (first | refine blk_drewN ?_ _ | refine blk_drew ?_ | refine blk_alloc ?_ _)); refine blk_put (cs := #[.int .i64 t480, .int .i64 t481, .int .i64 t482, .slice none 0 0]) ?_ 3 _ rfl; (with_reducible repeat (first | refine blk_drewN ?_ _ | refine blk_drew ?_ | refine blk_alloc ?_ _)); refine blk_put (cs := #[.int .i64 t480, .int .i64 t481, .int .i64 0, .slice none 0 0]) ?_ 2 _ rfl; (with_reducible repeat (first | refine blk_drewN ?_ _ | refine blk_drew ?_ | refine blk_alloc ?_ _)); refine blk_put (cs := #[.int .i64 t480, .int .i64 0, .int .i64 0, .slice none 0 0]) ?_ 1 _ rfl; (with_reducible repeat (first | refine blk_drewN ?_ _ | refine blk_drew ?_ | refine blk_alloc ?_ _)); refine blk_put (cs := #[.int .i64 0, .int .i64 0, .int .i64 0, .slice none 0 0]) ?_ 0 _ rfl; exact bP BK486.out))⟩; have n8_ : Aside0 (Below w.heap.size w w54) := ⟨(by rw [hw]; exact (bW))⟩; clear hw; clear HO466; clear HO472; clear HO478; clear HO485; clear BK459; clear BK460; clear BK479; clear BK486; clear HB; have HO466 := n0_; have HO472 := n1_; have HO478 := n2_; have HO485 := n3_; have BK459 := n4_; have BK460 := n5_; have BK479 := n6_; have BK486 := n7_; have HB := n8_; clear n0_ n1_ n2_ n3_ n4_ n5_ n6_ n7_ n8_; obtain ⟨hcz55_0, hcz55_1⟩ := cells2 BK479.out; obtain ⟨hfz55_0, hfz55_1⟩ := frz2 BK479.out; obtain ⟨hcz56_0, hcz56_1, hcz56_2, hcz56_3⟩ := cells4 BK486.out; obtain ⟨hfz56_0, hfz56_1, hfz56_2, hfz56_3⟩ := frz4 BK486.out) | ((with_reducible refine gate_callee (f := 28) rfl ?_); refine goesS (some 37) Tryd.func28 #[.agg #[.int .i64 t475, .slice Ao45 t476.length co45], .agg #[.int .i64 t480, .int .i64 t481, .int .i64 t482, .slice Ao53 t483.length co53]] ?_; (with_reducible refine (impl_HasDiamonds.calls k t475 _ _ t476 t480 t481 t482 (fun k_ => (((((some k_ ≠ (.slice Ao36 t464.length co36 : Value).ownBlock ∧ (some k_ ≠ (.slice Ao37 t470.length co37 : Value).ownBlock ∧ some k_ ≠ (.slice Ao45 t476.length co45 : Value).ownBlock)) ∧ k_ ≠ gb459) ∧ k_ ≠ gb460) ∧ k_ ≠ gb479) ∧ k_ ≠ gb486)) _ _ t483 t487 t488 _ ?side1 ?side2 ?side3 A24.out (tabW HTab.out)).mono ?_); (case side1 => exact cP ((Kd.R_reads' HO478.out).2.2)); (case side2 => exact (Kd.R_reads' HO478.out).2.1); (case side3 => exact Kd.S_V (Kd.S_types (Kd.S_types (Kd.S_types (Kd.S_types (HO485.out) BK459.out (by decide)) BK460.out (by decide)) BK479.out (by decide)) BK486.out (by decide))); rintro e w57 ⟨rfl, hb⟩; refine ⟨_, rfl, ?_⟩; have n0_ := Aside0.mk (Kd.R_below (rP HO466.out) hb); have n1_ := Aside0.mk (Kd.S_below (sP HO472.out) hb); have n2_ := Aside0.mk (Kd.R_below (rP HO478.out) hb); have n3_ := Aside0.mk (Kd.S_below (sP HO485.out) hb); have n4_ := Aside0.mk (blkB BK459.out hb); have n5_ := Aside0.mk (blkB BK460.out hb); have n6_ := Aside0.mk (blkB BK479.out hb); have n7_ := Aside0.mk (blkB BK486.out hb); have n8_ := Aside0.mk (below_step (bW) hb); clear HO466; clear HO472; clear HO478; clear HO485; clear BK459; clear BK460; clear BK479; clear BK486; clear HB; have HO466 := n0_; have HO472 := n1_; have HO478 := n2_; have HO485 := n3_; have BK459 := n4_; have BK460 := n5_; have BK479 := n6_; have BK486 := n7_; have HB := n8_; clear n0_ n1_ n2_ n3_ n4_ n5_ n6_ n7_ n8_; (try clear hb); (try clear hb2); (try clear hk); (try clear hi)))
   (try simp only [Act.put, List.setIfInBounds_toArray, List.set_cons_zero, List.set_cons_succ])
   go_cut [47] (fun v47 wc => ∃ (kq : Nat) (x47_24 : Bool), v47 = .bool x47_24 ∧ Aside0 (laws_FnExactHasDiamonds.j0 kq x47_24 a0_0 l0_1 a1_0 a1_1 a1_2 l1_3 t475 t476 t480 t481 t482 t483 = some r) ∧ Aside0 (kq ≤ k) ∧ Aside0 (Kd.R (Kd.int .i64) 2 wc w.heap.size (fun _ => True) (.slice Ao45 t476.length co45) t476) ∧ Aside0 (Kd.S (Kd.slice 2 (Kd.int .i64)) 22 wc w.heap.size (fun k_ => some k_ ≠ ((.slice Ao45 t476.length co45) : Value).ownBlock) (.slice Ao53 t483.length co53) t483) ∧ Aside0 (wc.heap[gb459]? = some (.cells #[.int .i64 a0_0, (.slice A0_1 l0_1.length c0_1)] 24 (0, 0))) ∧ Aside0 (wc.heap[gb460]? = some (.cells #[.int .i64 a1_0, .int .i64 a1_1, .int .i64 a1_2, (.slice A1_3 l1_3.length c1_3)] 44 (0, 0))) ∧ Aside0 (wc.heap[gb479]? = some (.cells #[.int .i64 t475, (.slice Ao45 t476.length co45)] 29 (0, 0))) ∧ Aside0 (wc.heap[gb486]? = some (.cells #[.int .i64 t480, .int .i64 t481, .int .i64 t482, (.slice Ao53 t483.length co53)] 48 (0, 0))) ∧ Aside0 (Below w.heap.size w wc))
   case first =>
    have H := HC25.out
    clear HC25
    by_cases c58 : (t487 != t473) = true
    ·rw [if_pos c58] at H
     have c58b0 : (t487 != t473) = true := c58
     (try (have c58b1 : decide (t487 = t473) = false := by simpa using c58))
     (try (have c58b2 : (t487 == t473) = false := by simpa using c58))
     (try (have c58b3 : ¬ (t487 = t473) := by simpa using c58))
     clear c58
     (first | rw [c58b0] | (simp only [i64_w, i32_w]; rw [c58b0]) | skip)
     have H' := Aside0.mk H
     clear H
     go_wp2
     go_meet
     case rel => exact ⟨_, (true), (eW), H', ⟨by first | omega | exact Nat.le_refl _⟩, ⟨by (with_reducible repeat (first | apply Kd.R_alloc | apply Kd.R_drewN | apply Kd.R_drew)); exact Kd.R_mono HO478.out (fun _ hk => trivial)⟩, ⟨by (with_reducible repeat (first | apply Kd.S_alloc | apply Kd.S_drewN | apply Kd.S_drew)); exact Kd.S_mono HO485.out (fun _ hk => hk.2.2)⟩, ⟨(bP BK459.out)⟩, ⟨(bP BK460.out)⟩, ⟨(bP BK479.out)⟩, ⟨(bP BK486.out)⟩, ⟨bW⟩⟩
    ·rw [if_neg c58] at H
     have c58b0 : (t487 != t473) = false := by simpa using c58
     (try (have c58b1 : decide (t487 = t473) = true := by simpa using c58))
     (try (have c58b2 : (t487 == t473) = true := by simpa using c58))
     clear c58
     (first | rw [c58b0] | (simp only [i64_w, i32_w]; rw [c58b0]) | skip)
     have H' := Aside0.mk H
     clear H
     go_wp2
     go_meet
     case rel => exact ⟨_, ((t488 != t474)), (eW), H', ⟨by first | omega | exact Nat.le_refl _⟩, ⟨by (with_reducible repeat (first | apply Kd.R_alloc | apply Kd.R_drewN | apply Kd.R_drew)); exact Kd.R_mono HO478.out (fun _ hk => trivial)⟩, ⟨by (with_reducible repeat (first | apply Kd.S_alloc | apply Kd.S_drewN | apply Kd.S_drew)); exact Kd.S_mono HO485.out (fun _ hk => hk.2.2)⟩, ⟨(bP BK459.out)⟩, ⟨(bP BK460.out)⟩, ⟨(bP BK479.out)⟩, ⟨(bP BK486.out)⟩, ⟨bW⟩⟩
   case rest =>
    clear HC25
    try clear c1
    try clear c2
    try clear p2
    try clear c4
    try clear c4b0
    try clear c5
    try clear c7
    try clear c11
    try clear c11b0
    try clear c12
    try clear c14
    try clear c15
    try clear c25
    try clear c26
    try clear c27
    try clear c28
    try clear c42
    try clear c43
    try clear c49
    try clear c50
    try clear c51
    try clear c58
    try clear c58b0
    try clear c58b1
    try clear c58b2
    try clear hcz15_0
    try clear hcz15_1
    try clear hcz17_0
    try clear hcz17_1
    try clear hcz17_2
    try clear hcz17_3
    try clear hcz29_0
    try clear hcz29_1
    try clear hcz31_0
    try clear hcz31_1
    try clear hcz31_2
    try clear hcz31_3
    try clear hcz39_0
    try clear hcz39_1
    try clear hcz44_0
    try clear hcz44_1
    try clear hcz46_0
    try clear hcz46_1
    try clear hcz46_2
    try clear hcz46_3
    try clear hcz52_0
    try clear hcz52_1
    try clear hcz52_2
    try clear hcz52_3
    try clear hcz55_0
    try clear hcz55_1
    try clear hcz56_0
    try clear hcz56_1
    try clear hcz56_2
    try clear hcz56_3
    try clear hcz8_0
    try clear hcz8_1
    try clear hfz15_0
    try clear hfz15_1
    try clear hfz17_0
    try clear hfz17_1
    try clear hfz17_2
    try clear hfz17_3
    try clear hfz29_0
    try clear hfz29_1
    try clear hfz31_0
    try clear hfz31_1
    try clear hfz31_2
    try clear hfz31_3
    try clear hfz39_0
    try clear hfz39_1
    try clear hfz44_0
    try clear hfz44_1
    try clear hfz46_0
    try clear hfz46_1
    try clear hfz46_2
    try clear hfz46_3
    try clear hfz52_0
    try clear hfz52_1
    try clear hfz52_2
    try clear hfz52_3
    try clear hfz55_0
    try clear hfz55_1
    try clear hfz56_0
    try clear hfz56_1
    try clear hfz56_2
    try clear hfz56_3
    try clear hfz8_0
    try clear hfz8_1
    obtain ⟨kq, x47_24, rfl, HA, HJ24, HO_480001, HO_487003, BK459, BK460, BK479, BK486, HB⟩ := hcut
    cases kq with
    | zero => exact absurd HA.out (by simp [laws_FnExactHasDiamonds.j0])
    | succ kj24 =>
     have H := HA.out
     clear HA
     simp only [laws_FnExactHasDiamonds.j0] at H
     by_cases c59 : x47_24 = true
     ·subst c59
      have H1 : (some false) = some r := by rw [if_pos rfl] at H; exact H
      clear H
      have H := H1
      clear H1
      exact absurd (Option.some.inj H) (by rw [HTr_.out]; decide)
     ·replace c59 := Bool.eq_false_iff.mpr c59
      subst c59
      have H1 : ((laws_toAlphabet.f kj24 a0_0 l0_1).bind fun bt489 => ((laws_eqAlphabet.f kj24 t475 t476 bt489.1 bt489.2).bind fun t493 => (if t493 = true then ((laws_toAutomaton.f kj24 a1_0 a1_1 a1_2 l1_3).bind fun bt494 => ((laws_eqAutomaton.f kj24 t480 t481 t482 t483 bt494.1 bt494.2.1 bt494.2.2.1 bt494.2.2.2).bind fun t500 => (if t500 = true then (some true) else (some false)))) else (some false)))) = some r := by rw [if_neg (show ¬ (false = true) by decide)] at H; exact H
      clear H
      have H := H1
      clear H1
      replace H := Option.bind_eq_some_iff.mp H
      obtain ⟨⟨t489, t490⟩, A600, H⟩ := H
      replace H : ((laws_eqAlphabet.f kj24 t475 t476 t489 t490).bind fun t493 => (if t493 = true then ((laws_toAutomaton.f kj24 a1_0 a1_1 a1_2 l1_3).bind fun bt494 => ((laws_eqAutomaton.f kj24 t480 t481 t482 t483 bt494.1 bt494.2.1 bt494.2.2.1 bt494.2.2.2).bind fun t500 => (if t500 = true then (some true) else (some false)))) else (some false))) = some r := H
      have A60 := Aside0.mk A600
      clear A600
      replace H := Option.bind_eq_some_iff.mp H
      obtain ⟨t493, A610, H⟩ := H
      replace H : (if t493 = true then ((laws_toAutomaton.f kj24 a1_0 a1_1 a1_2 l1_3).bind fun bt494 => ((laws_eqAutomaton.f kj24 t480 t481 t482 t483 bt494.1 bt494.2.1 bt494.2.2.1 bt494.2.2.2).bind fun t500 => (if t500 = true then (some true) else (some false)))) else (some false)) = some r := H
      have A61 := Aside0.mk A610
      clear A610
      by_cases c62 : t493 = true
      ·subst c62
       have H1 : ((laws_toAutomaton.f kj24 a1_0 a1_1 a1_2 l1_3).bind fun bt494 => ((laws_eqAutomaton.f kj24 t480 t481 t482 t483 bt494.1 bt494.2.1 bt494.2.2.1 bt494.2.2.2).bind fun t500 => (if t500 = true then (some true) else (some false)))) = some r := by rw [if_pos rfl] at H; exact H
       clear H
       have H := H1
       clear H1
       replace H := Option.bind_eq_some_iff.mp H
       obtain ⟨⟨t494, t495, t496, t497⟩, A630, H⟩ := H
       replace H : ((laws_eqAutomaton.f kj24 t480 t481 t482 t483 t494 t495 t496 t497).bind fun t500 => (if t500 = true then (some true) else (some false))) = some r := H
       have A63 := Aside0.mk A630
       clear A630
       replace H := Option.bind_eq_some_iff.mp H
       obtain ⟨t500, A640, H⟩ := H
       replace H : (if t500 = true then (some true) else (some false)) = some r := H
       have A64 := Aside0.mk A640
       clear A640
       by_cases c65 : t500 = true
       ·subst c65
        have H1 : (some true) = some r := by rw [if_pos rfl] at H; exact H
        clear H
        have H := H1
        clear H1
        obtain rfl := Option.some.inj H
        try go_wp2
        have n0_ := Aside0.mk (Kd.R_drew HO_480001.out)
        have n1_ := Aside0.mk (Kd.S_drew HO_487003.out)
        have n2_ := Aside0.mk (blk_drew BK459.out)
        have n3_ := Aside0.mk (blk_drew BK460.out)
        have n4_ := Aside0.mk (blk_drew BK479.out)
        have n5_ := Aside0.mk (blk_drew BK486.out)
        have n6_ := Aside0.mk (below_drew1 HB.out)
        clear HO_480001
        clear HO_487003
        clear BK459
        clear BK460
        clear BK479
        clear BK486
        clear HB
        have HO_480001 := n0_
        have HO_487003 := n1_
        have BK459 := n2_
        have BK460 := n3_
        have BK479 := n4_
        have BK486 := n5_
        have HB := n6_
        clear n0_ n1_ n2_ n3_ n4_ n5_ n6_
        refine start_ (n := 5) (S := fun w' => w'.cell? ⟨gb479, 0, none⟩ = some (.int .i64 t475) ∧ w'.cell? ⟨gb479, 1, none⟩ = some (.slice Ao45 t476.length co45) ∧ w'.cell? ⟨gb459, 0, none⟩ = some (.int .i64 a0_0) ∧ w'.cell? ⟨gb459, 1, none⟩ = some (.slice A0_1 l0_1.length c0_1)) (ds := []) #[false, false, false, false, false] (by kernel_rfl) rfl rfl ⟨(blk_cell BK479.out 0).trans rfl, (blk_cell BK479.out 1).trans rfl, (blk_cell BK459.out 0).trans rfl, (blk_cell BK459.out 1).trans rfl⟩ (fun hHeld => ?_)
        generalize wc.drew = w66 at HO_480001 HO_487003 BK459 BK460 BK479 BK486 HB hHeld ⊢
        refine takeS (i := 0) (N := some 48) (by kernel_rfl) hHeld ?_
        refine takeS (i := 1) (N := some 49) (by kernel_rfl) hHeld ?_
        refine one_ (i := 2) (N := some 50) #[true, true, true, false, false] rfl rfl (by kernel_rfl) (by decide) (fun K hK => ?_)
        refine goes_ Tryd.func15 (by kernel_rfl) rfl #[.agg #[.int .i64 a0_0, .slice A0_1 l0_1.length c0_1]] (by rfl) rfl rfl (by (try simp only [List.map_toArray, List.map_cons, List.map_nil]); first | done | rfl | (simp only [List.length_drop, List.length_take]; rfl)) ?_
        with_reducible refine (laws_toAlphabet.calls kj24 a0_0 _ _ l0_1 t489 t490 _ ?side1 ?side2 A60.out).mono ?_
        (case side1 => exact cP (Kd.C_below HR0_1.out HB.out))
        (case side2 => exact HC0_1.out)
        rintro e w67 ⟨v491, rfl, ho0, hb⟩
        refine ⟨_, rfl, ?_⟩
        have n0_ := Aside0.mk (Kd.R_elder' (rP HO_480001.out) (Kd.R_base ho0) hb)
        have n1_ := Aside0.mk (Kd.S_elder' (sP HO_487003.out) (Kd.R_base ho0) hb)
        have n2_ := Aside0.mk (Kd.R_lower (Kd.R_new' ho0 (Kd.R_lt (rP HO_480001.out))) (below_size (bW)))
        have n3_ := Aside0.mk (blkB BK459.out hb)
        have n4_ := Aside0.mk (blkB BK460.out hb)
        have n5_ := Aside0.mk (blkB BK479.out hb)
        have n6_ := Aside0.mk (blkB BK486.out hb)
        have n7_ := Aside0.mk (below_step (bW) hb)
        clear HO_480001
        clear HO_487003
        clear BK459
        clear BK460
        clear BK479
        clear BK486
        clear HB
        have HO_480001 := n0_
        have HO_487003 := n1_
        have HO492 := n2_
        have BK459 := n3_
        have BK460 := n4_
        have BK479 := n5_
        have BK486 := n6_
        have HB := n7_
        clear n0_ n1_ n2_ n3_ n4_ n5_ n6_ n7_
        (try clear hb)
        (try clear hb2)
        (try clear hk)
        (try clear hi)
        (try clear ho0)
        obtain ⟨Ao68, co68, eo68⟩ := Kd.R_slice HO492.out
        (first | subst eo68 | (injection eo68 with f1_ f2_ f3_; have f4_ := f1_.symm; have f5_ := f3_.symm; clear f1_ f2_ f3_; subst f4_; subst f5_))
        refine hK.out _ _ ⟨(blk_cell BK479.out 0).trans rfl, (blk_cell BK479.out 1).trans rfl, (blk_cell BK459.out 0).trans rfl, (blk_cell BK459.out 1).trans rfl⟩ (fun hHeld => ?_)
        clear hK K
        refine norm_ (a' := ?_) ?_ ?_
        rotate_left
        ·show Act.put _ (some 50) _ = _
         simp only [Act.put, List.setIfInBounds_toArray, List.set_cons_zero, List.set_cons_succ, i64_w, i32_w]
         rfl
        refine one_ (i := 3) (N := some 51) #[true, true, true, true, false] rfl rfl (by kernel_rfl) (by decide) (fun K hK => ?_)
        refine goes_ Tryd.func18 (by kernel_rfl) rfl #[.agg #[.int .i64 t475, .slice Ao45 t476.length co45], .agg #[.int .i64 t489, .slice Ao68 t490.length co68]] (by rfl) rfl rfl (by (try simp only [List.map_toArray, List.map_cons, List.map_nil]); first | done | rfl | (simp only [List.length_drop, List.length_take]; rfl)) ?_
        with_reducible refine (laws_eqAlphabet.calls kj24 t475 _ _ t476 t489 _ _ t490 true _ ?side1 ?side2 ?side3 ?side4 A61.out).mono ?_
        (case side1 => exact cP ((Kd.R_reads' HO_480001.out).2.2))
        (case side2 => exact (Kd.R_reads' HO_480001.out).2.1)
        (case side3 => exact cP ((Kd.R_reads' HO492.out).2.2))
        (case side4 => exact (Kd.R_reads' HO492.out).2.1)
        rintro e w69 ⟨rfl, hb⟩
        refine ⟨_, rfl, ?_⟩
        have n0_ := Aside0.mk (Kd.R_below (rP HO_480001.out) hb)
        have n1_ := Aside0.mk (Kd.S_below (sP HO_487003.out) hb)
        have n2_ := Aside0.mk (Kd.R_below (rP HO492.out) hb)
        have n3_ := Aside0.mk (blkB BK459.out hb)
        have n4_ := Aside0.mk (blkB BK460.out hb)
        have n5_ := Aside0.mk (blkB BK479.out hb)
        have n6_ := Aside0.mk (blkB BK486.out hb)
        have n7_ := Aside0.mk (below_step (bW) hb)
        clear HO_480001
        clear HO_487003
        clear HO492
        clear BK459
        clear BK460
        clear BK479
        clear BK486
        clear HB
        have HO_480001 := n0_
        have HO_487003 := n1_
        have HO492 := n2_
        have BK459 := n3_
        have BK460 := n4_
        have BK479 := n5_
        have BK486 := n6_
        have HB := n7_
        clear n0_ n1_ n2_ n3_ n4_ n5_ n6_ n7_
        (try clear hb)
        (try clear hb2)
        (try clear hk)
        (try clear hi)
        refine hK.out _ _ ⟨(blk_cell BK479.out 0).trans rfl, (blk_cell BK479.out 1).trans rfl, (blk_cell BK459.out 0).trans rfl, (blk_cell BK459.out 1).trans rfl⟩ (fun hHeld => ?_)
        clear hK K
        refine norm_ (a' := ?_) ?_ ?_
        rotate_left
        ·show Act.put _ (some 51) _ = _
         simp only [Act.put, List.setIfInBounds_toArray, List.set_cons_zero, List.set_cons_succ, i64_w, i32_w]
         rfl
        refine pureS (i := 4) (N := some 52) (by kernel_rfl) ?_
        refine done_ (by kernel_rfl) ?_
        try go_wp2
        have n0_ := Aside0.mk (Kd.R_drew HO_480001.out)
        have n1_ := Aside0.mk (Kd.S_drew HO_487003.out)
        have n2_ := Aside0.mk (Kd.R_drew HO492.out)
        have n3_ := Aside0.mk (blk_drew BK459.out)
        have n4_ := Aside0.mk (blk_drew BK460.out)
        have n5_ := Aside0.mk (blk_drew BK479.out)
        have n6_ := Aside0.mk (blk_drew BK486.out)
        have n7_ := Aside0.mk (below_drew1 HB.out)
        clear HO_480001
        clear HO_487003
        clear HO492
        clear BK459
        clear BK460
        clear BK479
        clear BK486
        clear HB
        have HO_480001 := n0_
        have HO_487003 := n1_
        have HO492 := n2_
        have BK459 := n3_
        have BK460 := n4_
        have BK479 := n5_
        have BK486 := n6_
        have HB := n7_
        clear n0_ n1_ n2_ n3_ n4_ n5_ n6_ n7_
        refine start_ (n := 5) (S := fun w' => w'.cell? ⟨gb486, 0, none⟩ = some (.int .i64 t480) ∧ w'.cell? ⟨gb486, 1, none⟩ = some (.int .i64 t481) ∧ w'.cell? ⟨gb486, 2, none⟩ = some (.int .i64 t482) ∧ w'.cell? ⟨gb486, 3, none⟩ = some (.slice Ao53 t483.length co53) ∧ w'.cell? ⟨gb460, 0, none⟩ = some (.int .i64 a1_0) ∧ w'.cell? ⟨gb460, 1, none⟩ = some (.int .i64 a1_1) ∧ w'.cell? ⟨gb460, 2, none⟩ = some (.int .i64 a1_2) ∧ w'.cell? ⟨gb460, 3, none⟩ = some (.slice A1_3 l1_3.length c1_3)) (ds := []) #[false, false, false, false, false] (by kernel_rfl) rfl rfl ⟨(blk_cell BK486.out 0).trans rfl, (blk_cell BK486.out 1).trans rfl, (blk_cell BK486.out 2).trans rfl, (blk_cell BK486.out 3).trans rfl, (blk_cell BK460.out 0).trans rfl, (blk_cell BK460.out 1).trans rfl, (blk_cell BK460.out 2).trans rfl, (blk_cell BK460.out 3).trans rfl⟩ (fun hHeld => ?_)
        generalize w69.drew = w70 at HO_480001 HO_487003 HO492 BK459 BK460 BK479 BK486 HB hHeld ⊢
        refine takeS (i := 0) (N := some 53) (by kernel_rfl) hHeld ?_
        refine takeS (i := 1) (N := some 54) (by kernel_rfl) hHeld ?_
        refine one_ (i := 2) (N := some 55) #[true, true, true, false, false] rfl rfl (by kernel_rfl) (by decide) (fun K hK => ?_)
        refine goes_ Tryd.func27 (by kernel_rfl) rfl #[.agg #[.int .i64 a1_0, .int .i64 a1_1, .int .i64 a1_2, .slice A1_3 l1_3.length c1_3]] (by rfl) rfl rfl (by (try simp only [List.map_toArray, List.map_cons, List.map_nil]); first | done | rfl | (simp only [List.length_drop, List.length_take]; rfl)) ?_
        with_reducible refine (laws_toAutomaton.calls kj24 a1_0 a1_1 a1_2 _ _ l1_3 t494 t495 t496 t497 _ ?side1 ?side2 A63.out).mono ?_
        (case side1 => exact cP (Kd.C_below HR1_3.out HB.out))
        (case side2 => exact HC1_3.out)
        rintro e w71 ⟨v498, rfl, ho0, hb⟩
        refine ⟨_, rfl, ?_⟩
        have n0_ := Aside0.mk (Kd.R_below (rP HO_480001.out) hb)
        have n1_ := Aside0.mk (Kd.S_elder' (sP HO_487003.out) (Kd.S_base ho0) hb)
        have n2_ := Aside0.mk (Kd.R_below (rP HO492.out) hb)
        have n3_ := Aside0.mk (Kd.S_lower (Kd.S_new' (Kd.S_new' (Kd.S_new' ho0 (Kd.R_lt (rP HO_480001.out))) (Kd.S_lt (sP HO_487003.out))) (Kd.R_lt (rP HO492.out))) (below_size (bW)))
        have n4_ := Aside0.mk (blkB BK459.out hb)
        have n5_ := Aside0.mk (blkB BK460.out hb)
        have n6_ := Aside0.mk (blkB BK479.out hb)
        have n7_ := Aside0.mk (blkB BK486.out hb)
        have n8_ := Aside0.mk (below_step (bW) hb)
        clear HO_480001
        clear HO_487003
        clear HO492
        clear BK459
        clear BK460
        clear BK479
        clear BK486
        clear HB
        have HO_480001 := n0_
        have HO_487003 := n1_
        have HO492 := n2_
        have HO499 := n3_
        have BK459 := n4_
        have BK460 := n5_
        have BK479 := n6_
        have BK486 := n7_
        have HB := n8_
        clear n0_ n1_ n2_ n3_ n4_ n5_ n6_ n7_ n8_
        (try clear hb)
        (try clear hb2)
        (try clear hk)
        (try clear hi)
        (try clear ho0)
        obtain ⟨Ao72, co72, eo72⟩ := Kd.S_slice HO499.out
        (first | subst eo72 | (injection eo72 with f1_ f2_ f3_; have f4_ := f1_.symm; have f5_ := f3_.symm; clear f1_ f2_ f3_; subst f4_; subst f5_))
        refine hK.out _ _ ⟨(blk_cell BK486.out 0).trans rfl, (blk_cell BK486.out 1).trans rfl, (blk_cell BK486.out 2).trans rfl, (blk_cell BK486.out 3).trans rfl, (blk_cell BK460.out 0).trans rfl, (blk_cell BK460.out 1).trans rfl, (blk_cell BK460.out 2).trans rfl, (blk_cell BK460.out 3).trans rfl⟩ (fun hHeld => ?_)
        clear hK K
        refine norm_ (a' := ?_) ?_ ?_
        rotate_left
        ·show Act.put _ (some 55) _ = _
         simp only [Act.put, List.setIfInBounds_toArray, List.set_cons_zero, List.set_cons_succ, i64_w, i32_w]
         rfl
        refine one_ (i := 3) (N := some 56) #[true, true, true, true, false] rfl rfl (by kernel_rfl) (by decide) (fun K hK => ?_)
        refine goes_ Tryd.func29 (by kernel_rfl) rfl #[.agg #[.int .i64 t480, .int .i64 t481, .int .i64 t482, .slice Ao53 t483.length co53], .agg #[.int .i64 t494, .int .i64 t495, .int .i64 t496, .slice Ao72 t497.length co72]] (by rfl) rfl rfl (by (try simp only [List.map_toArray, List.map_cons, List.map_nil]); first | done | rfl | (simp only [List.length_drop, List.length_take]; rfl)) ?_
        with_reducible refine (laws_eqAutomaton.calls kj24 t480 t481 t482 _ _ t483 t494 t495 t496 _ _ t497 true _ ?side1 ?side2 ?side3 ?side4 A64.out).mono ?_
        (case side1 => exact cP ((Kd.S_reads' HO_487003.out).2.2))
        (case side2 => exact (Kd.S_reads' HO_487003.out).2.1)
        (case side3 => exact cP ((Kd.S_reads' HO499.out).2.2))
        (case side4 => exact (Kd.S_reads' HO499.out).2.1)
        rintro e w73 ⟨rfl, hb⟩
        refine ⟨_, rfl, ?_⟩
        have n0_ := Aside0.mk (Kd.R_below (rP HO_480001.out) hb)
        have n1_ := Aside0.mk (Kd.S_below (sP HO_487003.out) hb)
        have n2_ := Aside0.mk (Kd.R_below (rP HO492.out) hb)
        have n3_ := Aside0.mk (Kd.S_below (sP HO499.out) hb)
        have n4_ := Aside0.mk (blkB BK459.out hb)
        have n5_ := Aside0.mk (blkB BK460.out hb)
        have n6_ := Aside0.mk (blkB BK479.out hb)
        have n7_ := Aside0.mk (blkB BK486.out hb)
        have n8_ := Aside0.mk (below_step (bW) hb)
        clear HO_480001
        clear HO_487003
        clear HO492
        clear HO499
        clear BK459
        clear BK460
        clear BK479
        clear BK486
        clear HB
        have HO_480001 := n0_
        have HO_487003 := n1_
        have HO492 := n2_
        have HO499 := n3_
        have BK459 := n4_
        have BK460 := n5_
        have BK479 := n6_
        have BK486 := n7_
        have HB := n8_
        clear n0_ n1_ n2_ n3_ n4_ n5_ n6_ n7_ n8_
        (try clear hb)
        (try clear hb2)
        (try clear hk)
        (try clear hi)
        refine hK.out _ _ ⟨(blk_cell BK486.out 0).trans rfl, (blk_cell BK486.out 1).trans rfl, (blk_cell BK486.out 2).trans rfl, (blk_cell BK486.out 3).trans rfl, (blk_cell BK460.out 0).trans rfl, (blk_cell BK460.out 1).trans rfl, (blk_cell BK460.out 2).trans rfl, (blk_cell BK460.out 3).trans rfl⟩ (fun hHeld => ?_)
        clear hK K
        refine norm_ (a' := ?_) ?_ ?_
        rotate_left
        ·show Act.put _ (some 56) _ = _
         simp only [Act.put, List.setIfInBounds_toArray, List.set_cons_zero, List.set_cons_succ, i64_w, i32_w]
         rfl
        refine pureS (i := 4) (N := some 57) (by kernel_rfl) ?_
        refine done_ (by kernel_rfl) ?_
        try go_wp2
        go_ret
        exact ⟨eW, bW⟩
       ·replace c65 := Bool.eq_false_iff.mpr c65
        subst c65
        have H1 : (some false) = some r := by rw [if_neg (show ¬ (false = true) by decide)] at H; exact H
        clear H
        have H := H1
        clear H1
        exact absurd (Option.some.inj H) (by rw [HTr_.out]; decide)
      ·replace c62 := Bool.eq_false_iff.mpr c62
       subst c62
       have H1 : (some false) = some r := by rw [if_neg (show ¬ (false = true) by decide)] at H; exact H
       clear H
       have H := H1
       clear H1
       exact absurd (Option.some.inj H) (by rw [HTr_.out]; decide)

/-! ### spec_DiamondFault: function 30 -/
end Go.Proofs.YthbaocejgjpfoaaDoor.P
end M0
section M1
namespace Go.Proofs.YthbaocejgjpfoaaDoor.Op
open Go.RowKit Go.Proofs.YthbaocejgjpfoaaDoorW.PrintWords Go.Proofs.YthbaocejgjpfoaaDoorW.PrintLast Go.Proofs.YthbaocejgjpfoaaDoorW.PrintMore
/-- What is read at type t lies in memory as kind d says. -/
def Opens {α : Type} (P : Program) (t : TypeId) (d : Kd α) (ok : α → Prop) : Prop :=
  ∀ (H : Type) (enc : TypeId × Value → H) (w : World) (base : Nat) (held : Bool) (fuel : Nat) (cs : List Value) (x : DataW H × List MemPlace),
    DataW.trod enc P w base (fun _ => true) held fuel t cs = some x → ∃ a, d.K w a cs ∧ ok a
theorem opens_int {P : Program} {t : TypeId} {k : IntKind} (ht : P.underlying t = some (.int k)) : Opens P t (Kd.int k) (fun n => (Lit.int k n).wf = true) := by
  intro H enc w base held fuel cs x h
  obtain ⟨n, rfl, _, hw⟩ := DataW.trod_int ht h
  exact ⟨n, rfl, hw⟩
theorem opens_slice {α : Type} {P : Program} {t e : TypeId} {d : Kd α} {ok : α → Prop} (ht : P.underlying t = some (.slice e)) (hc : P.cellsOf e = d.sz) (he : Opens P e d ok) :
    Opens P t (Kd.slice e d) (fun xs => xs.length ≤ maxLen ∧ ∀ x ∈ xs, ok x) := by
  intro H enc w base held fuel cs x h
  rcases DataW.trod_slice ht h with ⟨rfl, _⟩ | ⟨a, len, cap, elems, rest, n, _, rfl, _, hb, hl, hm, hlen, hel, _, _⟩
  · exact ⟨[], ⟨none, 0, rfl, Nat.le_refl _, rfl, by simp, fun h => absurd h (by simp)⟩, by simp, by simp⟩
  · have each : ∀ i, i < len → ∃ y : α × List Value, y.2.length = d.sz ∧ d.K w y.1 y.2 ∧ ok y.1 ∧ ∀ j u, y.2[j]? = some u → w.cell? (a.add (i * d.sz + j)) = some u := by
      intro i hi
      have h1 := hel i hi
      rw [List.getElem?_eq_getElem (by omega), Option.bind_eq_some_iff] at h1
      obtain ⟨cs', h2, h3⟩ := h1
      obtain ⟨y, hk, ho⟩ := he _ _ _ _ _ _ _ _ h3
      obtain ⟨_, h5, h6⟩ := World.cells?_some h2
      refine ⟨(y, cs'), h5.trans hc, hk, ho, fun j u hj => ?_⟩
      have hjl : j < P.cellsOf e := by rw [← h5]; exact (List.getElem?_eq_some_iff.1 hj).1
      have h7 := h6 j hjl
      rw [hj, hc] at h7
      rw [← Addr.add_add]
      exact h7
    have hy := fun i : Fin len => Classical.choose_spec (each i.1 i.2)
    generalize hY : (fun i : Fin len => Classical.choose (each i.1 i.2)) = y at hy
    have hy' : ∀ i : Fin len, (y i).2.length = d.sz ∧ d.K w (y i).1 (y i).2 ∧ ok (y i).1 ∧ ∀ j u, (y i).2[j]? = some u → w.cell? (a.add (i.1 * d.sz + j)) = some u := by
      intro i; rw [← hY]; exact hy i
    clear hy hY
    have hln : (List.ofFn fun i => (y i).1).length = len := by simp
    refine ⟨List.ofFn fun i => (y i).1, ⟨some a, cap, by rw [hln], by rw [hln]; exact hl, ?_⟩, by rw [hln]; omega, ?_⟩
    · refine ⟨rfl, by rw [hln]; unfold maxLen at hm; omega, fun _ => ⟨a, rfl, fun j p hj => ?_⟩⟩
      have hjl : j < len := by rw [← hln]; exact (List.getElem?_eq_some_iff.1 hj).1
      rw [List.getElem?_ofFn, dif_pos hjl, Option.some.injEq] at hj
      subst hj
      obtain ⟨q1, q2, _, q4⟩ := hy' ⟨j, hjl⟩
      exact ⟨(y ⟨j, hjl⟩).2, q1, q2, fun i u hi => q4 i u hi⟩
    · intro x hx
      rw [List.mem_ofFn] at hx
      obtain ⟨i, rfl⟩ := hx
      exact (hy' i).2.2.1
/-- An argument that is a slice. -/
theorem open_row {α : Type} {P : Program} {t e : TypeId} {d : Kd α} {ok : List α → Prop} {H : Type} {enc : TypeId × Value → H} {w : World} {base fuel : Nat} {held : Bool} {v : Value} {x : DataW H × List MemPlace}
    (h : DataW.trod enc P w base (fun _ => true) held fuel t [v] = some x) (hs : Opens P t (Kd.slice e d) ok) : ∃ A c xs, v = .slice A xs.length c ∧ xs.length ≤ c ∧ d.C w A xs.length xs ∧ ok xs := by
  obtain ⟨xs, ⟨A, c, hv, hl, hr⟩, ho⟩ := hs _ _ _ _ _ _ _ _ h
  exact ⟨A, c, xs, by simpa using hv, hl, hr, ho⟩
end Go.Proofs.YthbaocejgjpfoaaDoor.Op
end M1
section M2
namespace Go.Proofs.YthbaocejgjpfoaaDoor.U
open Go.RowKit Go.Proofs.YthbaocejgjpfoaaDoorW.PrintWords Go.Proofs.YthbaocejgjpfoaaDoorW.PrintLast
set_option linter.unusedVariables false
/-! Small laws of numbers and lists for the plain part: what a printed loop comes to. -/
theorem w64 {n : Int} (h0 : -9223372036854775808 ≤ n) (h1 : n ≤ 9223372036854775807) : wrap64 n = n := by unfold wrap64; omega
theorem w64s {n : Nat} (h : n < 9223372036854775807) : wrap64 ((n : Int) + 1) = ((n + 1 : Nat) : Int) := by unfold wrap64; omega
theorem rdn (l : List Int) (i : Nat) : rd l (i : Int) = l.getD i 0 := rfl
theorem rd_lt {l : List Int} {i : Nat} (h : i < l.length) : rd l (i : Int) = l[i] := by
  show l.getD i 0 = _; rw [List.getD_eq_getElem?_getD, List.getElem?_eq_getElem h]; rfl
theorem rdOf_lt {α : Type} {d : α} {l : List α} {i : Nat} (h : i < l.length) : rdOf d l (i : Int) = l[i] := by
  show l.getD i d = _; rw [List.getD_eq_getElem?_getD, List.getElem?_eq_getElem h]; rfl
theorem Ev.now' {α : Type} {g : Nat → Option α} {r : α} (h : ∀ k, g k = some r) : Ev g r := ⟨0, fun k _ => h k⟩
/-- One round more, the loop's own equation still to be unfolded. -/
theorem Ev.round {α : Type} {g : Nat → Option α} {r : α} (h : Ev (fun k => g (k + 1)) r) : Ev g r := by
  obtain ⟨K, h⟩ := h
  refine ⟨K + 1, fun n hn => ?_⟩
  obtain ⟨m, rfl⟩ : ∃ m, n = m + 1 := ⟨n - 1, by omega⟩
  exact h m (by omega)
theorem Ev.here {α β : Type} {g : Option α} {f : Nat → α → Option β} {a : α} {r : β} (h : g = some a) (k : Ev (fun n => f n a) r) : Ev (fun n => g.bind (f n)) r := by
  subst h; exact k
theorem Ev.yes {α : Type} {c : Prop} [Decidable c] {A B : Nat → Option α} {r : α} (h : c) (k : Ev A r) : Ev (fun n => if c then A n else B n) r := Ev.congr (fun _ => if_pos h) k
theorem Ev.no {α : Type} {c : Prop} [Decidable c] {A B : Nat → Option α} {r : α} (h : ¬ c) (k : Ev B r) : Ev (fun n => if c then A n else B n) r := Ev.congr (fun _ => if_neg h) k
/-- An upward loop over an index: what it comes to from i on, if what one round does is known. -/
theorem Ev.up {σ ρ : Type} (L : Nat → σ → Int → Option ρ) (n : Nat) (R : Nat → σ → ρ) (I : Nat → σ → Prop)
    (hend : ∀ s, I n s → Ev (fun k => L k s (n : Int)) (R n s))
    (hstep : ∀ i s, i < n → I i s → (∀ s', I (i + 1) s' → Ev (fun k => L k s' ((i + 1 : Nat) : Int)) (R (i + 1) s')) → Ev (fun k => L k s (i : Int)) (R i s)) :
    ∀ i s, i ≤ n → I i s → Ev (fun k => L k s (i : Int)) (R i s) := by
  intro i s hi hI
  obtain ⟨d, hd⟩ : ∃ d, n - i = d := ⟨_, rfl⟩
  induction d generalizing i s with
  | zero =>
    have : i = n := by omega
    subst this
    exact hend s hI
  | succ d ih => exact hstep i s (by omega) hI (fun s' h' => ih (i + 1) s' (by omega) h' (by omega))
/-- The rounds come to something that Q says. -/
def EvP {α : Type} (g : Nat → Option α) (Q : α → Prop) : Prop := ∃ r, Ev g r ∧ Q r
theorem EvP.mono {α : Type} {g : Nat → Option α} {Q Q' : α → Prop} (h : EvP g Q) (k : ∀ r, Q r → Q' r) : EvP g Q' := by
  obtain ⟨r, h, q⟩ := h; exact ⟨r, h, k r q⟩
theorem EvP.round {α : Type} {g : Nat → Option α} {Q : α → Prop} (h : EvP (fun k => g (k + 1)) Q) : EvP g Q := by
  obtain ⟨r, h, q⟩ := h; exact ⟨r, Ev.round h, q⟩
theorem EvP.yes {α : Type} {c : Prop} [Decidable c] {A B : Nat → Option α} {Q : α → Prop} (h : c) (k : EvP A Q) : EvP (fun n => if c then A n else B n) Q := by
  obtain ⟨r, k, q⟩ := k; exact ⟨r, Ev.yes h k, q⟩
theorem EvP.no {α : Type} {c : Prop} [Decidable c] {A B : Nat → Option α} {Q : α → Prop} (h : ¬ c) (k : EvP B Q) : EvP (fun n => if c then A n else B n) Q := by
  obtain ⟨r, k, q⟩ := k; exact ⟨r, Ev.no h k, q⟩
theorem EvP.here {α β : Type} {g : Option α} {f : Nat → α → Option β} {a : α} {Q : β → Prop} (h : g = some a) (k : EvP (fun n => f n a) Q) : EvP (fun n => g.bind (f n)) Q := by
  obtain ⟨r, k, q⟩ := k; exact ⟨r, Ev.here h k, q⟩
theorem EvP.bind {α β : Type} {g : Nat → Option α} {f : Nat → α → Option β} {a : α} {Q : β → Prop} (h : Ev g a) (k : EvP (fun n => f n a) Q) : EvP (fun n => (g n).bind (f n)) Q := by
  obtain ⟨r, k, q⟩ := k; exact ⟨r, Ev.bind h k, q⟩
theorem EvP.up {σ ρ : Type} (L : Nat → σ → Int → Option ρ) (Q : ρ → Prop) (n : Nat) (I : Nat → σ → Prop)
    (hend : ∀ s, I n s → EvP (fun k => L k s (n : Int)) Q)
    (hstep : ∀ i s, i < n → I i s → (∀ s', I (i + 1) s' → EvP (fun k => L k s' ((i + 1 : Nat) : Int)) Q) → EvP (fun k => L k s (i : Int)) Q) :
    ∀ i s, i ≤ n → I i s → EvP (fun k => L k s (i : Int)) Q := by
  intro i s hi hI
  obtain ⟨d, hd⟩ : ∃ d, n - i = d := ⟨_, rfl⟩
  induction d generalizing i s with
  | zero =>
    have : i = n := by omega
    subst this
    exact hend s hI
  | succ d ih => exact hstep i s (by omega) hI (fun s' h' => ih (i + 1) s' (by omega) h' (by omega))
end Go.Proofs.YthbaocejgjpfoaaDoor.U
end M2
section M3
namespace Go.Proofs.YthbaocejgjpfoaaDoor.U
open Go.RowKit Go.Proofs.YthbaocejgjpfoaaDoor.P Go.Proofs.YthbaocejgjpfoaaDoorW.PrintWords Go.Proofs.YthbaocejgjpfoaaDoorW.PrintLast
set_option linter.unusedVariables false
/-! What the law's own helpers come to: copies, equality, sizes. -/
theorem toS (x0 : List Int) (hn : x0.length ≤ 35184372088832) : Ev (fun k => laws_toInt64S.f k x0) x0 := by
  have key := Ev.up (fun k s i => laws_toInt64S.l0 k x0 s i) x0.length (fun _ _ => x0) (fun i s => s.length = x0.length ∧ ∀ j, j < i → s[j]? = x0[j]?)
    (fun s ⟨h1, h2⟩ => by
      refine Ev.round ?_
      simp only [laws_toInt64S.l0]
      refine Ev.no (by omega) ?_
      have : s = x0 := List.ext_getElem? fun j => by
        by_cases hj : j < x0.length
        · exact h2 j hj
        · rw [List.getElem?_eq_none (by omega), List.getElem?_eq_none (by omega)]
      rw [this]
      exact Ev.now _)
    (fun i s hi ⟨h1, h2⟩ ih => by
      refine Ev.round ?_
      simp only [laws_toInt64S.l0]
      refine Ev.yes (by omega) (Ev.yes (by omega) (Ev.yes (by omega) ?_))
      rw [w64s (by omega)]
      refine ih _ ⟨by simp [h1], fun j hj => ?_⟩
      rw [Int.toNat_natCast, rd_lt hi]
      by_cases e : j = i
      · subst e
        rw [List.getElem?_set_self (by omega), List.getElem?_eq_getElem hi]
      · rw [List.getElem?_set_ne (by omega)]
        exact h2 j (by omega))
  unfold laws_toInt64S.f
  refine Ev.yes (by omega) (Ev.yes (by omega) ?_)
  have := key 0 (List.replicate x0.length 0) (by omega) ⟨by simp, fun j hj => absurd hj (by omega)⟩
  simpa using this
theorem toSS (x0 : List (List Int)) (hn : x0.length ≤ 1048576) (hr : ∀ x ∈ x0, x.length ≤ 1048576) : Ev (fun k => laws_toInt64SS.f k x0) x0 := by
  have key := Ev.up (fun k s i => laws_toInt64SS.l0 k x0 s i) x0.length (fun _ _ => x0) (fun i s => s.length = x0.length ∧ ∀ j, j < i → s[j]? = x0[j]?)
    (fun s ⟨h1, h2⟩ => by
      refine Ev.round ?_
      simp only [laws_toInt64SS.l0]
      refine Ev.no (by omega) ?_
      have : s = x0 := List.ext_getElem? fun j => by
        by_cases hj : j < x0.length
        · exact h2 j hj
        · rw [List.getElem?_eq_none (by omega), List.getElem?_eq_none (by omega)]
      rw [this]
      exact Ev.now _)
    (fun i s hi ⟨h1, h2⟩ ih => by
      refine Ev.round ?_
      simp only [laws_toInt64SS.l0]
      refine Ev.yes (by omega) (Ev.yes (by omega) ?_)
      have hg : rd_L1 x0 (i : Int) = x0[i] := rdOf_lt (d := []) hi
      rw [hg]
      refine Ev.bind (toS x0[i] (by have := hr _ (List.getElem_mem hi); omega)) (Ev.yes (by omega) ?_)
      rw [w64s (by omega)]
      refine ih _ ⟨by simp [h1], fun j hj => ?_⟩
      rw [Int.toNat_natCast]
      by_cases e : j = i
      · subst e
        rw [List.getElem?_set_self (by omega), List.getElem?_eq_getElem hi]
      · rw [List.getElem?_set_ne (by omega)]
        exact h2 j (by omega))
  unfold laws_toInt64SS.f
  refine Ev.yes (by omega) (Ev.yes (by omega) ?_)
  have := key 0 (List.replicate x0.length []) (by omega) ⟨by simp, fun j hj => absurd hj (by omega)⟩
  simpa using this
theorem eqS (a b : List Int) (hn : a.length ≤ 9223372036854775806) : Ev (fun k => laws_eqInt64S.f k a b) (decide (a = b)) := by
  unfold laws_eqInt64S.f
  by_cases hl : a.length = b.length
  · refine Ev.yes (by omega) ?_
    have key := Ev.up (fun k (_ : Unit) i => laws_eqInt64S.l0 k a b i) a.length (fun _ _ => decide (a = b)) (fun i _ => ∀ j, j < i → a[j]? = b[j]?)
      (fun _ h2 => by
        refine Ev.round ?_
        simp only [laws_eqInt64S.l0]
        refine Ev.no (by omega) ?_
        have : a = b := List.ext_getElem? fun j => by
          by_cases hj : j < a.length
          · exact h2 j hj
          · rw [List.getElem?_eq_none (by omega), List.getElem?_eq_none (by omega)]
        rw [decide_eq_true this]
        exact Ev.now _)
      (fun i _ hi h2 ih => by
        refine Ev.round ?_
        simp only [laws_eqInt64S.l0]
        refine Ev.yes (by omega) (Ev.yes (by omega) (Ev.yes (by omega) ?_))
        rw [rd_lt hi, rd_lt (by omega : i < b.length), w64s (by omega)]
        by_cases e : a[i] = b[i]
        · refine Ev.yes e (ih () fun j hj => ?_)
          by_cases e' : j = i
          · subst e'
            rw [List.getElem?_eq_getElem hi, List.getElem?_eq_getElem (by omega), e]
          · exact h2 j (by omega)
        · refine Ev.no e ?_
          rw [decide_eq_false (fun h => e (by subst h; rfl))]
          exact Ev.now _)
    have := key 0 () (by omega) (fun j hj => absurd hj (by omega))
    simpa using this
  · refine Ev.no (by omega) ?_
    rw [decide_eq_false (fun h => hl (by rw [h]))]
    exact Ev.now _
theorem eqSS (a b : List (List Int)) (hn : a.length ≤ 9223372036854775806) (hr : ∀ x ∈ a, x.length ≤ 9223372036854775806) : Ev (fun k => laws_eqInt64SS.f k a b) (decide (a = b)) := by
  unfold laws_eqInt64SS.f
  by_cases hl : a.length = b.length
  · refine Ev.yes (by omega) ?_
    have key := Ev.up (fun k (_ : Unit) i => laws_eqInt64SS.l0 k a b i) a.length (fun _ _ => decide (a = b)) (fun i _ => ∀ j, j < i → a[j]? = b[j]?)
      (fun _ h2 => by
        refine Ev.round ?_
        simp only [laws_eqInt64SS.l0]
        refine Ev.no (by omega) ?_
        have : a = b := List.ext_getElem? fun j => by
          by_cases hj : j < a.length
          · exact h2 j hj
          · rw [List.getElem?_eq_none (by omega), List.getElem?_eq_none (by omega)]
        rw [decide_eq_true this]
        exact Ev.now _)
      (fun i _ hi h2 ih => by
        refine Ev.round ?_
        simp only [laws_eqInt64SS.l0]
        refine Ev.yes (by omega) (Ev.yes (by omega) (Ev.yes (by omega) ?_))
        have hg : rd_L1 a (i : Int) = a[i] := rdOf_lt (d := []) hi
        have hg2 : rd_L1 b (i : Int) = b[i] := rdOf_lt (d := []) (by omega)
        rw [hg, hg2, w64s (by omega)]
        refine Ev.bind (eqS a[i] b[i] (hr _ (List.getElem_mem hi))) ?_
        by_cases e : a[i] = b[i]
        · rw [decide_eq_true e]
          refine Ev.yes rfl (ih () fun j hj => ?_)
          by_cases e' : j = i
          · subst e'
            rw [List.getElem?_eq_getElem hi, List.getElem?_eq_getElem (by omega), e]
          · exact h2 j (by omega)
        · rw [decide_eq_false e]
          refine Ev.no (by simp) ?_
          rw [decide_eq_false (fun h => e (by subst h; rfl))]
          exact Ev.now _)
    have := key 0 () (by omega) (fun j hj => absurd hj (by omega))
    simpa using this
  · refine Ev.no (by omega) ?_
    rw [decide_eq_false (fun h => hl (by rw [h]))]
    exact Ev.now _
/-- The size of a list of lists as the laws count it. -/
def sz2 (x : List (List Int)) : Nat := x.length + (x.map List.length).sum
theorem szSS (x0 : List (List Int)) (hn : x0.length ≤ maxLen) (hr : ∀ x ∈ x0, x.length ≤ maxLen) (a : Nat) (ha : a ≤ 1048576) :
    Ev (fun k => laws_szInt64SS.f k x0 a) (if sz2 x0 ≤ a then ((a - sz2 x0 : Nat) : Int) else -1) := by
  unfold maxLen at hn hr
  have hrd : ∀ i, i < x0.length → rd_L1 x0 (i : Int) = x0.getD i [] := fun i hi => rfl
  have key := Ev.up (fun k (s : Nat) i => laws_szInt64SS.l0 k x0 (s : Int) i) x0.length
    (fun i s => if ((x0.drop i).map List.length).sum ≤ s then ((s - ((x0.drop i).map List.length).sum : Nat) : Int) else -1) (fun _ s => s ≤ 1048576)
    (fun s hs => by
      refine Ev.round ?_
      simp only [laws_szInt64SS.l0]
      refine Ev.no (by omega) ?_
      simp only [List.drop_length, List.map_nil, List.sum_nil, Nat.zero_le, if_true, Nat.sub_zero]
      exact Ev.now _)
    (fun i s hi hs ih => by
      refine Ev.round ?_
      simp only [laws_szInt64SS.l0]
      refine Ev.yes (by omega) (Ev.yes (by omega) ?_)
      have hg : rd_L1 x0 (i : Int) = x0[i] := rdOf_lt (d := []) hi
      rw [hg, w64s (by omega)]
      have hx := hr _ (List.getElem_mem hi)
      have hd : x0.drop i = x0[i] :: x0.drop (i + 1) := List.drop_eq_getElem_cons hi
      rw [hd, List.map_cons, List.sum_cons]
      have hw : wrap64 ((s : Int) - (x0[i].length : Int)) = (s : Int) - (x0[i].length : Int) := w64 (by omega) (by omega)
      have hf : laws_szInt64S.f x0[i] (s : Int) = some (if x0[i].length ≤ s then ((s - x0[i].length : Nat) : Int) else -1) := by
        unfold laws_szInt64S.f
        rw [hw]
        by_cases h : x0[i].length ≤ s
        · rw [if_neg (by omega), if_pos h]; congr 1; omega
        · rw [if_pos (by omega), if_neg h]
      refine Ev.here hf ?_
      by_cases h : x0[i].length ≤ s
      · rw [if_pos h]
        refine Ev.no (by omega) ?_
        have := ih (s - x0[i].length) (by omega)
        by_cases h2 : ((x0.drop (i + 1)).map List.length).sum ≤ s - x0[i].length
        · rw [if_pos h2] at this
          rw [if_pos (by omega), show s - (x0[i].length + ((x0.drop (i + 1)).map List.length).sum) = s - x0[i].length - ((x0.drop (i + 1)).map List.length).sum from by omega]
          exact this
        · rw [if_neg h2] at this
          rw [if_neg (by omega)]
          exact this
      · rw [if_neg h]
        refine Ev.yes (by omega) ?_
        rw [if_neg (by omega)]
        exact Ev.now _)
  unfold laws_szInt64SS.f
  have hw : wrap64 ((a : Int) - (x0.length : Int)) = (a : Int) - (x0.length : Int) := w64 (by omega) (by omega)
  rw [hw]
  unfold sz2
  by_cases h : x0.length ≤ a
  · refine Ev.no (by omega) ?_
    have := key 0 (a - x0.length) (by omega) (by omega)
    rw [show ((a - x0.length : Nat) : Int) = (a : Int) - (x0.length : Int) from by omega] at this
    simp only [List.drop_zero] at this
    by_cases h2 : (x0.map List.length).sum ≤ a - x0.length
    · rw [if_pos h2] at this
      rw [if_pos (by omega), show a - (x0.length + (x0.map List.length).sum) = a - x0.length - (x0.map List.length).sum from by omega]
      exact this
    · rw [if_neg h2] at this
      rw [if_neg (by omega)]
      exact this
  · refine Ev.yes (by omega) ?_
    rw [if_neg (by omega)]
    exact Ev.now _
theorem le_sum {l : List Nat} {a : Nat} (h : a ∈ l) : a ≤ l.sum := by
  induction l with
  | nil => cases h
  | cons b l ih =>
    rw [List.sum_cons]
    rcases List.mem_cons.1 h with rfl | h
    · omega
    · have := ih h; omega
theorem le_sz2 {x0 : List (List Int)} {x : List Int} (h : x ∈ x0) : x.length ≤ sz2 x0 := by
  unfold sz2
  have : x.length ∈ x0.map List.length := List.mem_map.2 ⟨x, h, rfl⟩
  have := le_sum this
  omega
end Go.Proofs.YthbaocejgjpfoaaDoor.U
end M3
section M4
namespace Go.Proofs.YthbaocejgjpfoaaDoor.U
open Go.RowKit Go.Proofs.YthbaocejgjpfoaaDoor.P Go.Proofs.YthbaocejgjpfoaaDoorW.PrintWords Go.Proofs.YthbaocejgjpfoaaDoorW.PrintLast
set_option linter.unusedVariables false
/-! The reference's test of an automaton. -/
theorem spIn (a lo hi : Int) : spec_l01In.f a lo hi = some (inRB a lo hi) := by
  unfold spec_l01In.f inRB
  by_cases h : lo ≤ a
  · rw [if_pos h, decide_eq_true h, Bool.true_and]
  · rw [if_neg h, decide_eq_false h, Bool.false_and]
theorem u64w {n : Int} (h0 : 0 ≤ n) (h1 : n < 18446744073709551616) : IntKind.u64.wrap n = n := by
  show n % 18446744073709551616 = n
  omega
theorem spOne {n : Int} (h0 : 0 ≤ n) (h1 : n < 18446744073709551616) : spec_l01One.f n = some (shl .i64 1 n) := by
  unfold spec_l01One.f
  rw [u64w h0 h1, if_pos h0]
theorem maskB_eq {F n : Int} (h0 : 0 ≤ n) (h1 : n ≤ 24) : maskB F n = inRB F 0 (wrap64 (shl .i64 1 n - 1)) := by
  unfold maskB impl_IsMask.f
  rw [inRange_some]
  have : inRB n 0 24 = true := by unfold inRB; simp; omega
  rw [this]
  simp only [Option.bind_some, if_true]
  unfold impl_one.f
  rw [if_pos h0]
  simp only [Option.bind_some]
  rw [inRange_some]
  rfl
theorem spFull {n : Int} (h0 : 0 ≤ n) (h1 : n < 18446744073709551616) : spec_l01Full.f n = some (wrap64 (shl .i64 1 n - 1)) := by
  unfold spec_l01Full.f
  rw [spOne h0 h1]
  rfl
theorem l11Is_loop (L S F : Int) (N : List (List Int)) (hn : N.length ≤ 16) (hL : L ≤ 8) : Ev (fun k => spec_l11Is.l0 k (N.length : Int) 0 L S F N) (!(N.any (badRow L N.length))) := by
  have key := Ev.up (fun k (_ : Unit) i => spec_l11Is.l0 k (N.length : Int) i L S F N) N.length (fun i _ => !((N.drop i).any (badRow L N.length))) (fun _ _ => True)
    (fun _ _ => by
      refine Ev.round ?_
      simp only [spec_l11Is.l0]
      refine Ev.no (by omega) ?_
      rw [List.drop_length]
      exact Ev.now _)
    (fun i _ hi _ ih => by
      refine Ev.round ?_
      simp only [spec_l11Is.l0]
      have hg : rd_L1 N (i : Int) = N[i] := rdOf_lt (d := []) hi
      refine Ev.yes (by omega) (Ev.yes (by omega) (Ev.yes (by omega) ?_))
      rw [hg, List.drop_eq_getElem_cons hi, List.any_cons]
      by_cases hl : (N[i].length : Int) = L
      · refine Ev.yes hl ?_
        have inner := Ev.up (fun k (_ : Unit) j => spec_l11Is.l1 k (N.length : Int) (i : Int) j L S F N) N[i].length
          (fun j _ => ((N[i].drop j).all fun t => decide (-1 ≤ t) && decide (t ≤ (N.length : Int) - 1)) && !((N.drop (i + 1)).any (badRow L N.length))) (fun _ _ => True)
          (fun _ _ => by
            refine Ev.round ?_
            simp only [spec_l11Is.l1]
            refine Ev.no (by omega) ?_
            rw [List.drop_length, w64s (by omega)]
            simpa using ih () trivial)
          (fun j _ hj _ ihj => by
            refine Ev.round ?_
            simp only [spec_l11Is.l1]
            rw [hg]
            refine Ev.yes (by omega) (Ev.yes (by omega) (Ev.yes (by omega) (Ev.yes (by omega) (Ev.yes (by omega) ?_))))
            rw [rd_lt hj, w64 (n := (N.length : Int) - 1) (by omega) (by omega), w64s (by omega)]
            refine Ev.here (spIn _ _ _) ?_
            rw [List.drop_eq_getElem_cons hj, List.all_cons]
            show Ev _ ((inRB N[i][j] (-1) ((N.length : Int) - 1) && _) && _)
            cases hb : inRB N[i][j] (-1) ((N.length : Int) - 1)
            · exact Ev.no (by simp) (Ev.now _)
            · refine Ev.yes rfl ?_
              simpa using ihj () trivial)
        have h0 := inner 0 () (by omega) trivial
        have hb : badRow L N.length N[i] = !(N[i].all fun t => decide (-1 ≤ t) && decide (t ≤ (N.length : Int) - 1)) := by unfold badRow; rw [decide_eq_true hl]; simp
        rw [hb, Bool.not_or, Bool.not_not]
        simpa using h0
      · refine Ev.no hl ?_
        have hb : badRow L N.length N[i] = true := by unfold badRow; rw [decide_eq_false hl]; simp
        rw [hb]
        exact Ev.now _)
  have := key 0 () (by omega) trivial
  simpa using this
theorem l11Is_ev (L S F : Int) (N : List (List Int)) (hN : N.length ≤ 9223372036854775807) : Ev (fun k => spec_l11Is.f k L S F N) (isAut L S F N) := by
  unfold spec_l11Is.f isAut
  refine Ev.here (show spec_l11States.f L S F N = some (N.length : Int) from rfl) ?_
  refine Ev.here (spIn _ _ _) ?_
  have hno : ∀ x3, Ev (fun k => spec_l11Is.j0 k x3 true L S F N) false := fun x3 => Ev.round (by simp only [spec_l11Is.j0]; exact Ev.yes (by trivial) (Ev.now _))
  cases h1 : inRB L 0 8
  · exact Ev.no (by simp) (hno _)
  refine Ev.yes rfl (Ev.here (spIn _ _ _) ?_)
  cases h2 : inRB (N.length : Int) 1 16
  · exact Ev.no (by simp) (hno _)
  have h2' := h2
  unfold inRB at h1 h2'
  simp only [Bool.and_eq_true, decide_eq_true_eq] at h1 h2'
  refine Ev.yes rfl ?_
  rw [w64 (n := (N.length : Int) - 1) (by omega) (by omega)]
  refine Ev.here (spIn _ _ _) ?_
  cases h3 : inRB S 0 ((N.length : Int) - 1)
  · exact Ev.no (by simp) (hno _)
  refine Ev.yes rfl (Ev.here (spFull (by omega) (by omega)) (Ev.here (spIn _ _ _) ?_))
  rw [← maskB_eq (by omega) (by omega)]
  cases h4 : maskB F N.length
  · exact hno _
  · refine Ev.round ?_
    simp only [spec_l11Is.j0]
    refine Ev.no (by simp) ?_
    simpa using l11Is_loop L S F N (by omega) h1.2
theorem toA (a b c : Int) (l : List (List Int)) (h : sz2 l ≤ 1048576) : Ev (fun k => laws_toAutomaton.f k a b c l) (a, b, c, l) := by
  unfold laws_toAutomaton.f
  refine Ev.bind (toSS l (by unfold sz2 at h; omega) (fun x hx => by have := le_sz2 hx; omega)) (Ev.now _)
theorem eqA (a b c : Int) (l : List (List Int)) (h : sz2 l ≤ 1048576) : Ev (fun k => laws_eqAutomaton.f k a b c l a b c l) true := by
  unfold laws_eqAutomaton.f
  refine Ev.yes rfl (Ev.yes rfl (Ev.yes rfl ?_))
  refine Ev.bind (eqSS l l (by unfold sz2 at h; omega) (fun x hx => by have := le_sz2 hx; omega)) ?_
  rw [decide_eq_true rfl]
  exact Ev.yes rfl (Ev.now _)
end Go.Proofs.YthbaocejgjpfoaaDoor.U
end M4
section M5
namespace Go.Proofs.YthbaocejgjpfoaaDoor.U
open Go.RowKit Go.Proofs.YthbaocejgjpfoaaDoor.P Go.Proofs.YthbaocejgjpfoaaDoorW.PrintWords Go.Proofs.YthbaocejgjpfoaaDoorW.PrintLast
set_option linter.unusedVariables false
/-! Reading words in an automaton. -/
/-- The rows of a machine: each of as many places as there are letters, each place a state or -1. -/
def Rows' (L : Int) (N : List (List Int)) : Prop := ∀ row ∈ N, (row.length : Int) = L ∧ ∀ t ∈ row, -1 ≤ t ∧ t < N.length
structure AutOK (L S F : Int) (N : List (List Int)) : Prop where
  l0 : 0 ≤ L
  l8 : L ≤ 8
  n1 : 1 ≤ N.length
  n16 : N.length ≤ 16
  s0 : 0 ≤ S
  sn : S < N.length
  mask : maskB F N.length = true
  rows : Rows' L N
theorem isAut_ok {L S F : Int} {N : List (List Int)} (h : isAut L S F N = true) : AutOK L S F N := by
  unfold isAut inRB at h
  simp only [Bool.and_eq_true, decide_eq_true_eq, Bool.not_eq_true', List.any_eq_false] at h
  obtain ⟨⟨a, b⟩, ⟨c, d⟩, ⟨e, f⟩, g, i⟩ := h
  refine ⟨a, b, by omega, by omega, e, by omega, g, fun row hr => ?_⟩
  have := i row hr
  unfold badRow at this
  simp only [Bool.or_eq_true, Bool.not_eq_true', decide_eq_false_iff_not, not_or, Decidable.not_not, Bool.not_eq_false, List.all_eq_true, Bool.and_eq_true, decide_eq_true_eq] at this
  exact ⟨this.1, fun t ht => ⟨(this.2 t ht).1, by have := (this.2 t ht).2; omega⟩⟩
/-- The state to which a letter leads, -1 for no state. -/
def nx (N : List (List Int)) (s a : Int) : Int := if s < 0 then -1 else rd (rd_L1 N s) a
/-- The state to which a word leads. -/
def rdW (N : List (List Int)) (s : Int) (w : List Int) : Int := w.foldl (nx N) s
theorem nat_of {i : Int} {n : Nat} (h0 : 0 ≤ i) (h1 : i < n) : ∃ k : Nat, i = k ∧ k < n := ⟨i.toNat, by omega, by omega⟩
theorem row_at {L : Int} {N : List (List Int)} (hN : Rows' L N) {s : Int} (h0 : 0 ≤ s) (h1 : s < N.length) : ((rd_L1 N s).length : Int) = L ∧ ∀ t ∈ rd_L1 N s, -1 ≤ t ∧ t < N.length := by
  obtain ⟨k, rfl, hk⟩ := nat_of h0 h1
  have hg : rd_L1 N (k : Int) = N[k] := rdOf_lt (d := []) hk
  rw [hg]
  exact hN _ (List.getElem_mem hk)
theorem rd_mem {l : List Int} {i : Int} (h0 : 0 ≤ i) (h1 : i < l.length) : rd l i ∈ l := by
  obtain ⟨k, rfl, hk⟩ := nat_of h0 h1
  rw [rd_lt hk]
  exact List.getElem_mem hk
theorem nx_in {L : Int} {N : List (List Int)} (hN : Rows' L N) {s a : Int} (h1 : s < N.length) (ha : 0 ≤ a) (hb : a < L) : -1 ≤ nx N s a ∧ nx N s a < N.length := by
  unfold nx
  by_cases h : s < 0
  · rw [if_pos h]; omega
  · rw [if_neg h]
    have hr := row_at hN (s := s) (by omega) h1
    exact hr.2 _ (rd_mem ha (by omega))
theorem rdW_neg (N : List (List Int)) {s : Int} (h : s < 0) (w : List Int) : w ≠ [] → rdW N s w = -1 := by
  intro hw
  induction w generalizing s with
  | nil => exact absurd rfl hw
  | cons a w ih =>
    show rdW N (nx N s a) w = -1
    have e : nx N s a = -1 := by unfold nx; rw [if_pos h]
    rw [e]
    by_cases hn : w = []
    · subst hn; rfl
    · exact ih (by omega) hn
theorem rdW_neg' (N : List (List Int)) (w : List Int) : rdW N (-1) w = -1 := by
  by_cases h : w = []
  · subst h; rfl
  · exact rdW_neg N (by omega) w h
/-- The reference's reading, from a state. -/
theorem l11Read_ev {L S F : Int} {N : List (List Int)} (hN : Rows' L N) (s : Int) (w : List Int) (h0 : -1 ≤ s) (h1 : s < N.length) (hl : w.length ≤ 9223372036854775806) (hw : ∀ a ∈ w, 0 ≤ a ∧ a < L) :
    Ev (fun k => spec_l11Read.f k L S F N s w) (rdW N s w) := by
  have key := Ev.up (fun k (s : Int) i => spec_l11Read.l0 k s w i L S F N) w.length (fun i s => rdW N s (w.drop i)) (fun _ s => -1 ≤ s ∧ s < N.length)
    (fun s hs => by
      refine Ev.round ?_
      simp only [spec_l11Read.l0]
      refine Ev.no (by omega) ?_
      rw [List.drop_length]
      exact Ev.now _)
    (fun i s hi hs ih => by
      refine Ev.round ?_
      simp only [spec_l11Read.l0]
      refine Ev.yes (by omega) ?_
      rw [List.drop_eq_getElem_cons hi]
      by_cases h : s ≥ 0
      · have ha := hw _ (List.getElem_mem hi)
        have hr := row_at hN (s := s) h hs.2
        rw [rd_lt hi]
        refine Ev.yes h (Ev.yes h (Ev.yes hs.2 (Ev.yes (by omega) (Ev.yes ha.1 (Ev.yes (by omega) ?_)))))
        rw [w64s (by omega)]
        have hx := nx_in hN (s := s) hs.2 ha.1 ha.2
        have e : nx N s w[i] = rd (rd_L1 N s) w[i] := by unfold nx; rw [if_neg (by omega)]
        have := ih (nx N s w[i]) hx
        rw [e] at this
        show Ev _ (rdW N (nx N s w[i]) (w.drop (i + 1)))
        rw [e]
        exact this
      · refine Ev.no h ?_
        have : s = -1 := by omega
        subst this
        rw [rdW_neg' N]
        exact Ev.now _)
  have := key 0 s (by omega) ⟨h0, h1⟩
  unfold spec_l11Read.f
  simpa using this
def hasB (F s : Int) : Bool := (Go.bits .and .i64 (shr .i64 F s) 1) == 1
theorem has_eq {F s : Int} (h : 0 ≤ s) : impl_has.f F s = some (hasB F s) := by unfold impl_has.f; rw [if_pos h]; rfl
/-- The final states of an automaton, as a list. -/
def finL (F : Int) (n : Nat) : List Bool := (List.range n).map fun (s : Nat) => hasB F s
theorem machineOf_ev (L S F : Int) (N : List (List Int)) (hn : N.length ≤ 1048576) : Ev (fun k => impl_machineOf.f k L S F N) (L, S, finL F N.length, N) := by
  have key := Ev.up (fun k (s : List Bool) i => impl_machineOf.l0 k (N.length : Int) i L S F N L S s N) N.length (fun _ _ => (L, S, finL F N.length, N)) (fun i s => s = finL F i)
    (fun s hs => by
      refine Ev.round ?_
      simp only [impl_machineOf.l0]
      refine Ev.no (by omega) ?_
      rw [hs]
      exact Ev.now _)
    (fun i s hi hs ih => by
      refine Ev.round ?_
      simp only [impl_machineOf.l0]
      refine Ev.yes (by omega) (Ev.here (has_eq (by omega)) ?_)
      have hl : s.length = i := by rw [hs]; simp [finL]
      refine Ev.yes (by omega) ?_
      rw [w64s (by omega)]
      refine ih _ ?_
      rw [hs]
      simp [finL, List.range_succ])
  have := key 0 [] (by omega) (by simp [finL])
  unfold impl_machineOf.f
  simpa using this
theorem step_eq {L : Int} {N : List (List Int)} (hN : Rows' L N) (S : Int) (fin : List Bool) {s a : Int} (h1 : s < N.length) (ha : 0 ≤ a) (hb : a < L) : impl_machine_step.f L S fin N s a = some (nx N s a) := by
  unfold impl_machine_step.f nx
  by_cases h : s < 0
  · rw [if_pos h, if_pos h]
  · have hr := row_at hN (s := s) (by omega) h1
    rw [if_neg h, if_neg h, if_pos (by omega), if_pos h1, if_pos ha, if_pos (by omega)]
end Go.Proofs.YthbaocejgjpfoaaDoor.U
end M5
section M6
namespace Go.Proofs.YthbaocejgjpfoaaDoor.U
open Go.RowKit Go.Proofs.YthbaocejgjpfoaaDoorW.PrintWords Go.Proofs.YthbaocejgjpfoaaDoorW.PrintLast Go.Proofs.YthbaocejgjpfoaaDoorW.PrintMore
set_option linter.unusedVariables false
/-! Sets as numbers. -/
theorem i64_id (n : Int) (h0 : 0 ≤ n) (h1 : n < 2 ^ 63) : IntKind.i64.wrap n = n := by rw [IntKind.wrap_i64]; omega
theorem bor {a b : Nat} (ha : a < 2 ^ 63) (hb : b < 2 ^ 63) : bits .or .i64 (a : Int) (b : Int) = ((a ||| b : Nat) : Int) := (bits_nat .i64 63 (by decide) i64_id a b ha hb).2
theorem band {a b : Nat} (ha : a < 2 ^ 63) (hb : b < 2 ^ 63) : bits .and .i64 (a : Int) (b : Int) = ((a &&& b : Nat) : Int) := (bits_nat .i64 63 (by decide) i64_id a b ha hb).1
theorem shl1 {i : Nat} (hi : i < 63) : shl .i64 1 (i : Int) = ((2 ^ i : Nat) : Int) := by
  unfold shl
  rw [Int.toNat_natCast]
  have : min i IntKind.i64.bits = i := Nat.min_eq_left (by show i ≤ 64; omega)
  rw [this, Int.one_mul]
  have h := Nat.pow_lt_pow_right (a := 2) (by decide) hi
  rw [show ((2 : Int) ^ i) = ((2 ^ i : Nat) : Int) from by simp]
  exact i64_id _ (Int.natCast_nonneg _) (by exact_mod_cast h)
/-- The members k < n with p k, joined to s. -/
def orN (p : Nat → Bool) : Nat → Nat → Nat
  | 0, s => s
  | n + 1, s => if p n then orN p n s ||| 2 ^ n else orN p n s
theorem orN_yes {p : Nat → Bool} {n s : Nat} (h : p n = true) : orN p (n + 1) s = orN p n s ||| 2 ^ n := if_pos h
theorem orN_no {p : Nat → Bool} {n s : Nat} (h : p n = false) : orN p (n + 1) s = orN p n s := if_neg (by rw [h]; simp)
theorem testBit_orN (p : Nat → Bool) (n s j : Nat) : (orN p n s).testBit j = (s.testBit j || (decide (j < n) && p j)) := by
  induction n with
  | zero => simp [orN]
  | succ n ih =>
    unfold orN
    by_cases h : p n
    · rw [if_pos h, Nat.testBit_or, ih, Nat.testBit_two_pow]
      by_cases e : n = j
      · subst e; simp [h]
      · have e2 : decide (j < n + 1) = decide (j < n) := by rw [decide_eq_decide]; omega
        rw [e2]; simp [e]
    · rw [if_neg h, ih]
      by_cases e : n = j
      · subst e; simp [h]
      · have e2 : decide (j < n + 1) = decide (j < n) := by rw [decide_eq_decide]; omega
        rw [e2]
theorem orN_lt (p : Nat → Bool) (n s m : Nat) (hn : n ≤ m) (hs : s < 2 ^ m) : orN p n s < 2 ^ m := by
  induction n with
  | zero => exact hs
  | succ n ih =>
    unfold orN
    split
    · exact Nat.or_lt_two_pow (ih (by omega)) (Nat.pow_lt_pow_right (by decide) (by omega))
    · exact ih (by omega)
theorem hasN {m s : Nat} (hm : m < 2 ^ 63) (hs : s ≤ 64) : ((bits .and .i64 (shr .i64 (m : Int) (s : Int)) 1) == 1) = m.testBit s := by
  have hsh : shr .i64 (m : Int) (s : Int) = ((m / 2 ^ s : Nat) : Int) := by
    unfold shr
    rw [Int.toNat_natCast, Nat.min_eq_left (show s ≤ IntKind.i64.bits from hs)]
    rw [show ((2 : Int) ^ s) = ((2 ^ s : Nat) : Int) from by simp]
    exact (Int.natCast_ediv _ _).symm
  have hq : m / 2 ^ s < 2 ^ 63 := Nat.lt_of_le_of_lt (Nat.div_le_self _ _) hm
  rw [hsh, show (1 : Int) = ((1 : Nat) : Int) from rfl, band hq (by decide), Nat.and_one_is_mod, Nat.testBit_eq_decide_div_mod_eq]
  generalize m / 2 ^ s % 2 = r
  by_cases h : r = 1
  · subst h; rfl
  · rw [decide_eq_false h]
    simp; omega
end Go.Proofs.YthbaocejgjpfoaaDoor.U
end M6
