import Derived.ArgAppend
import Derived.Below
import Derived.BigQuiet
import Derived.Deep.AppendLies
import Derived.Deep.CutBlock
import Derived.Deep.DeepCutAuto
import Derived.Deep.Draws
import Derived.Deep.LoopGhost
import Derived.Deep.OwnRows
import Derived.Deep.QuietTactic
import Derived.Deep.RegionHeld3
import Derived.KernelRfl
import Derived.Laws.BitsLemmas
import Derived.Laws.BytesArg
import Derived.Laws.IdiomCopy
import Derived.Laws.MakeOwn
import Derived.Laws.OwnMore
import Derived.Laws.Rows
import Derived.Laws.Slices
import Derived.Laws.StructEq
import Derived.Lib.AppendStr
import Derived.Lib.ConvBytes
import Derived.Lib.SliceRun
import Derived.Maps.AppendAt
import Derived.OrdersHeld
import Derived.OwnWalk
import Derived.RowKit
import Derived.RowKit3
import Derived.Shelf.Abstract
import Derived.Shelf.Spec.TrailingZeros
import Derived.Tactics
import Derived.Test.YthbaocejgjpfoaaDoorProg
import Derived.WalkKit
import Derived.WideLaws
import Derived.Test.YthbaocejgjpfoaaDoorCFnExactDiamondFault2
import Derived.Test.YthbaocejgjpfoaaDoorCFnExactDiamondFault4
import Derived.Test.YthbaocejgjpfoaaDoorCFnExactDiamondFault6
import Derived.Test.YthbaocejgjpfoaaDoorCFnExactDiamondFault7
import Derived.Test.YthbaocejgjpfoaaDoorCFnExactDiamondFault8
section M0
namespace Go.Proofs.YthbaocejgjpfoaaDoor.P
open Go.RowKit Go.Proofs.YthbaocejgjpfoaaDoor.Sh Go.Proofs.YthbaocejgjpfoaaDoorW.PrintWords Go.Proofs.YthbaocejgjpfoaaDoorW.PrintLast Go.Proofs.YthbaocejgjpfoaaDoorW.PrintMore
attribute [local go_sem] max2_int min2_int max_two min_two max_three min_three max_four min_four   -- for this text's walks alone
set_option linter.unusedVariables false
set_option linter.unusedSimpArgs false
/-! ### laws_FnExactDiamondFault: function 6 -/
mutual
def laws_FnExactDiamondFault.j0 : Nat → List Int → Int → List Int → Int → Bool → Int → List Int → Int → Int → Int → List (List Int) → Int → List Int → Int → Int → Int → List (List Int) → Option (Bool)
 | 0, _, _, _, _, _, _, _, _, _, _, _, _, _, _, _, _, _ => none
 | k + 1, x6, x7, x10, x11, x53, x530000, x530001, x531000, x531001, x531002, x531003, x552000, x552001, x559000, x559001, x559002, x559003 => if x53 = true then (some false) else ((laws_toAlphabet.f k x530000 x530001).bind fun bt564 => ((laws_eqAlphabet.f k x552000 x552001 bt564.1 bt564.2).bind fun t568 => (if t568 = true then ((laws_toAutomaton.f k x531000 x531001 x531002 x531003).bind fun bt569 => ((laws_eqAutomaton.f k x559000 x559001 x559002 x559003 bt569.1 bt569.2.1 bt569.2.2.1 bt569.2.2.2).bind fun t575 => (if t575 = true then ((laws_markAlphabet.f k x552000 x552001 1).bind fun bt576 => ((laws_markAutomaton.f k x559000 x559001 x559002 x559003 bt576.1).bind fun bt578 => (if bt578.1 < 0 then (laws_FnExactDiamondFault.j1 k x6 x7 x10 true x530000 x530001 x531000 x531001 x531002 x531003) else ((laws_eqInt64S.f k x10 x6).bind fun t580 => (if t580 = true then (laws_FnExactDiamondFault.j1 k x6 x7 x10 (x11 != x7) x530000 x530001 x531000 x531001 x531002 x531003) else (laws_FnExactDiamondFault.j1 k x6 x7 x10 true x530000 x530001 x531000 x531001 x531002 x531003)))))) else (some false)))) else (some false))))
def laws_FnExactDiamondFault.j1 : Nat → List Int → Int → List Int → Bool → Int → List Int → Int → Int → Int → List (List Int) → Option (Bool)
 | 0, _, _, _, _, _, _, _, _, _, _ => none
 | k + 1, x6, x7, x10, x82, x530000, x530001, x531000, x531001, x531002, x531003 => if x82 = true then (some false) else ((laws_markInt64S.f k x10 1).bind fun bt581 => ((laws_heldInt64S.f k bt581.2 1).bind fun t583 => (if t583 < 0 then (some false) else (if t583 = bt581.1 then ((laws_toAlphabet.f k x530000 x530001).bind fun bt584 => ((laws_toAutomaton.f k x531000 x531001 x531002 x531003).bind fun bt588 => ((impl_DiamondFault.f k bt584.1 bt584.2 bt588.1 bt588.2.1 bt588.2.2.1 bt588.2.2.2).bind fun bt594 => ((laws_eqInt64S.f k bt594.1 x6).bind fun t598 => (if t598 = true then (laws_FnExactDiamondFault.j2 k bt581.2 bt581.1 (bt594.2 != x7)) else (laws_FnExactDiamondFault.j2 k bt581.2 bt581.1 true)))))) else (some false)))))
def laws_FnExactDiamondFault.j2 : Nat → List Int → Int → Bool → Option (Bool)
 | 0, _, _, _ => none
 | k + 1, x10, x13, x110 => if x110 = true then (some false) else ((laws_heldInt64S.f k x10 1).bind fun t599 => (if t599 < 0 then (some false) else (if t599 = x13 then (some true) else (some false))))
end
def laws_FnExactDiamondFault.f (k : Nat) (a0_0 : Int) (l0_1 : List Int) (a1_0 : Int) (a1_1 : Int) (a1_2 : Int) (l1_3 : List (List Int)) : Option (Bool) := (laws_szAlphabet.f a0_0 l0_1 1048576).bind fun t531 => (if t531 < 0 then (some true) else ((laws_szAutomaton.f k a1_0 a1_1 a1_2 l1_3 t531).bind fun t532 => (if t532 < 0 then (some true) else ((laws_toAlphabet.f k a0_0 l0_1).bind fun bt533 => ((laws_toAutomaton.f k a1_0 a1_1 a1_2 l1_3).bind fun bt537 => ((spec_DiamondFault.f k bt533.1 bt533.2 bt537.1 bt537.2.1 bt537.2.2.1 bt537.2.2.2).bind fun bt543 => ((laws_toAlphabet.f k a0_0 l0_1).bind fun bt547 => ((laws_toAutomaton.f k a1_0 a1_1 a1_2 l1_3).bind fun bt552 => ((impl_DiamondFault.f k bt547.1 bt547.2 bt552.1 bt552.2.1 bt552.2.2.1 bt552.2.2.2).bind fun bt559 => ((laws_eqInt64S.f k bt559.1 bt543.1).bind fun t563 => (if t563 = true then (laws_FnExactDiamondFault.j0 k bt543.1 bt543.2 bt559.1 bt559.2 (bt559.2 != bt543.2) a0_0 l0_1 a1_0 a1_1 a1_2 l1_3 bt547.1 bt547.2 bt552.1 bt552.2.1 bt552.2.2.1 bt552.2.2.2) else (laws_FnExactDiamondFault.j0 k bt543.1 bt543.2 bt559.1 bt559.2 true a0_0 l0_1 a1_0 a1_1 a1_2 l1_3 bt547.1 bt547.2 bt552.1 bt552.2.1 bt552.2.2.1 bt552.2.2.2))))))))))))
def laws_FnExactDiamondFault.T8 : Bool × List (List Nat × List Nat) := (true, [([], []), ([0], [0]), ([], []), ([2, 1], [2]), ([1, 3, 3], [1, 3]), ([4], [4]), ([5], [5]), ([5], [5]), ([6, 4, 0, 1, 2, 3, 4, 5, 6], [6]), ([7, 8, 0, 1, 2, 3, 4, 5, 6, 7, 8], [7])])
def laws_FnExactDiamondFault.B8 : List Nat := [0, 1, 0, 7, 15, 31, 63, 63, 127, 511]
theorem laws_FnExactDiamondFault.tab8 : rtab .any (opsOf Tryd.f6 8) = laws_FnExactDiamondFault.T8 := by kernel_rfl
theorem laws_FnExactDiamondFault.bits8 : waitsOk laws_FnExactDiamondFault.T8.2 laws_FnExactDiamondFault.B8 = true := by kernel_rfl
def laws_FnExactDiamondFault.T31 : Bool × List (List Nat × List Nat) := (true, [([], []), ([0], [0]), ([], []), ([2, 1], [2]), ([1, 3, 3], [1, 3]), ([4], [4]), ([5], [5]), ([5], [5]), ([6, 4, 0, 1, 2, 3, 4, 5, 6], [6]), ([7, 8, 0, 1, 2, 3, 4, 5, 6, 7, 8], [7])])
def laws_FnExactDiamondFault.B31 : List Nat := [0, 1, 0, 7, 15, 31, 63, 63, 127, 511]
theorem laws_FnExactDiamondFault.tab31 : rtab .any (opsOf Tryd.f6 31) = laws_FnExactDiamondFault.T31 := by kernel_rfl
theorem laws_FnExactDiamondFault.bits31 : waitsOk laws_FnExactDiamondFault.T31.2 laws_FnExactDiamondFault.B31 = true := by kernel_rfl
set_option maxHeartbeats 8000000 in
set_option maxRecDepth 100000 in
theorem laws_FnExactDiamondFault.calls (k : Nat) (a0_0 : Int) (A0_1 : Option Addr) (c0_1 : Nat) (l0_1 : List Int) (a1_0 : Int) (a1_1 : Int) (a1_2 : Int) (A1_3 : Option Addr) (c1_3 : Nat) (l1_3 : List (List Int)) (r : Bool) (w : World) (hr0_1 : Kd.C (Kd.int .i64) w A0_1 l0_1.length l0_1) (hc0_1 : l0_1.length ≤ c0_1) (hr1_3 : Kd.C (Kd.slice 2 (Kd.int .i64)) w A1_3 l1_3.length l1_3) (hc1_3 : l1_3.length ≤ c1_3) (h : laws_FnExactDiamondFault.f k a0_0 l0_1 a1_0 a1_1 a1_2 l1_3 = some r) (hT_ : r = true) (hTab : Tab w) :
  Calls Tryd.prog 6 #[.agg #[.int .i64 a0_0, .slice A0_1 l0_1.length c0_1], .agg #[.int .i64 a1_0, .int .i64 a1_1, .int .i64 a1_2, .slice A1_3 l1_3.length c1_3]] w fun e w' => e = .returned (.bool r) ∧ Below w.heap.size w w' := by
 have HTab := Aside0.mk hTab
 clear hTab
 have HTr_ := Aside0.mk hT_
 clear hT_
 have hu24 := Tryd.underlying24
 have hu44 := Tryd.underlying44
 have hu29 := Tryd.underlying29
 have hu48 := Tryd.underlying48
 have HR0_1 := Aside0.mk hr0_1
 have HC0_1 := Aside0.mk hc0_1
 clear hr0_1 hc0_1
 have HR1_3 := Aside0.mk hr1_3
 have HC1_3 := Aside0.mk hc1_3
 clear hr1_3 hc1_3
 have HB := Aside0.mk (Below.refl w.heap.size w)
 have H : ((laws_szAlphabet.f a0_0 l0_1 1048576).bind fun t531 => (if t531 < 0 then (some true) else ((laws_szAutomaton.f k a1_0 a1_1 a1_2 l1_3 t531).bind fun t532 => (if t532 < 0 then (some true) else ((laws_toAlphabet.f k a0_0 l0_1).bind fun bt533 => ((laws_toAutomaton.f k a1_0 a1_1 a1_2 l1_3).bind fun bt537 => ((spec_DiamondFault.f k bt533.1 bt533.2 bt537.1 bt537.2.1 bt537.2.2.1 bt537.2.2.2).bind fun bt543 => ((laws_toAlphabet.f k a0_0 l0_1).bind fun bt547 => ((laws_toAutomaton.f k a1_0 a1_1 a1_2 l1_3).bind fun bt552 => ((impl_DiamondFault.f k bt547.1 bt547.2 bt552.1 bt552.2.1 bt552.2.2.1 bt552.2.2.2).bind fun bt559 => ((laws_eqInt64S.f k bt559.1 bt543.1).bind fun t563 => (if t563 = true then (laws_FnExactDiamondFault.j0 k bt543.1 bt543.2 bt559.1 bt559.2 (bt559.2 != bt543.2) a0_0 l0_1 a1_0 a1_1 a1_2 l1_3 bt547.1 bt547.2 bt552.1 bt552.2.1 bt552.2.2.1 bt552.2.2.2) else (laws_FnExactDiamondFault.j0 k bt543.1 bt543.2 bt559.1 bt559.2 true a0_0 l0_1 a1_0 a1_1 a1_2 l1_3 bt547.1 bt547.2 bt552.1 bt552.2.1 bt552.2.2.1 bt552.2.2.2))))))))))))) = some r := h
 clear h
 replace H := Option.bind_eq_some_iff.mp H
 obtain ⟨t531, A30, H⟩ := H
 replace H : (if t531 < 0 then (some true) else ((laws_szAutomaton.f k a1_0 a1_1 a1_2 l1_3 t531).bind fun t532 => (if t532 < 0 then (some true) else ((laws_toAlphabet.f k a0_0 l0_1).bind fun bt533 => ((laws_toAutomaton.f k a1_0 a1_1 a1_2 l1_3).bind fun bt537 => ((spec_DiamondFault.f k bt533.1 bt533.2 bt537.1 bt537.2.1 bt537.2.2.1 bt537.2.2.2).bind fun bt543 => ((laws_toAlphabet.f k a0_0 l0_1).bind fun bt547 => ((laws_toAutomaton.f k a1_0 a1_1 a1_2 l1_3).bind fun bt552 => ((impl_DiamondFault.f k bt547.1 bt547.2 bt552.1 bt552.2.1 bt552.2.2.1 bt552.2.2.2).bind fun bt559 => ((laws_eqInt64S.f k bt559.1 bt543.1).bind fun t563 => (if t563 = true then (laws_FnExactDiamondFault.j0 k bt543.1 bt543.2 bt559.1 bt559.2 (bt559.2 != bt543.2) a0_0 l0_1 a1_0 a1_1 a1_2 l1_3 bt547.1 bt547.2 bt552.1 bt552.2.1 bt552.2.2.1 bt552.2.2.2) else (laws_FnExactDiamondFault.j0 k bt543.1 bt543.2 bt559.1 bt559.2 true a0_0 l0_1 a1_0 a1_1 a1_2 l1_3 bt547.1 bt547.2 bt552.1 bt552.2.1 bt552.2.2.1 bt552.2.2.2)))))))))))) = some r := H
 have A3 := Aside0.mk A30
 clear A30
 by_cases c4 : t531 < 0
 ·rw [if_pos c4] at H
  have c4b0 : decide (t531 < 0) = true := decide_eq_true c4
  clear c4
  obtain rfl := Option.some.inj H
  go_enter Tryd.func6, Tryd.ntmps6
  go_wp2_with (first | ((with_reducible refine gate_dst (N := 2) rfl ?_); refine boxS (N := 2) (cs := #[.int .i64 a0_0, .slice A0_1 l0_1.length c0_1]) (t := 24) ?_; intro gb529 hg w5 hbox hb; have n0_ := Aside0.mk (below_step (bW) hb); have n1_ := Aside0.mk (hbox); have n2_ := geW (w := w) hg; have n3_ := geW (w := w) hg; clear HB; have HB := n0_; have BK529 := n1_; have GW529 := n2_; have GE529 := n3_; clear n0_ n1_ n2_ n3_ hb hbox hg) | ((with_reducible refine gate_dst (N := 3) rfl ?_); refine boxS (N := 3) (cs := #[.int .i64 a1_0, .int .i64 a1_1, .int .i64 a1_2, .slice A1_3 l1_3.length c1_3]) (t := 44) ?_; intro gb530 hg w6 hbox hb; have n0_ := Aside0.mk (blkB BK529.out hb); have n1_ := Aside0.mk (below_step (bW) hb); have n2_ := Aside0.mk (hbox); have n3_ := geW (w := w) hg; have n4_ := geW (w := w) hg; have n5_ := Aside0.mk ((by rw [hg]; exact Nat.ne_of_lt (blk_lt (g := gb529) (o := .cells #[.int .i64 a0_0, .slice A0_1 l0_1.length c0_1] 24 (0, 0)) (bP BK529.out)) : gb529 ≠ gb530)); have n6_ := Aside0.mk ((by rw [hg]; exact Nat.ne_of_gt (blk_lt (g := gb529) (o := .cells #[.int .i64 a0_0, .slice A0_1 l0_1.length c0_1] 24 (0, 0)) (bP BK529.out)) : gb530 ≠ gb529)); clear BK529 HB; have BK529 := n0_; have HB := n1_; have BK530 := n2_; have GW530 := n3_; have GE530 := n4_; have NB529_530 := n5_; have NB530_529 := n6_; clear n0_ n1_ n2_ n3_ n4_ n5_ n6_ hb hbox hg; have hnb7 := NB529_530.out; have hnc7 := NB530_529.out; obtain ⟨hcz8_0, hcz8_1⟩ := cells2 BK529.out; obtain ⟨hfz8_0, hfz8_1⟩ := frz2 BK529.out) | ((with_reducible refine gate_callee (f := 12) rfl ?_); refine goesS (some 19) Tryd.func12 #[.agg #[.int .i64 a0_0, .slice A0_1 l0_1.length c0_1], .int .i64 1048576] ?_; (with_reducible refine (laws_szAlphabet.calls a0_0 _ _ l0_1 1048576 t531 _ ?side1 ?side2 A3.out).mono ?_); (case side1 => exact cP (Kd.C_below HR0_1.out HB.out)); (case side2 => exact HC0_1.out); rintro e w9 ⟨rfl, hb⟩; refine ⟨_, rfl, ?_⟩; have n0_ := Aside0.mk (blkB BK529.out hb); have n1_ := Aside0.mk (blkB BK530.out hb); have n2_ := Aside0.mk (below_step (bW) hb); clear BK529 BK530 HB; have BK529 := n0_; have BK530 := n1_; have HB := n2_; clear n0_ n1_ n2_; (try clear hb); (try clear hb2); (try clear hk); (try clear hi)))
  go_ret
  exact ⟨eW, bW⟩
 ·rw [if_neg c4] at H
  have c4b0 : decide (t531 < 0) = false := decide_eq_false c4
  clear c4
  replace H := Option.bind_eq_some_iff.mp H
  obtain ⟨t532, A100, H⟩ := H
  replace H : (if t532 < 0 then (some true) else ((laws_toAlphabet.f k a0_0 l0_1).bind fun bt533 => ((laws_toAutomaton.f k a1_0 a1_1 a1_2 l1_3).bind fun bt537 => ((spec_DiamondFault.f k bt533.1 bt533.2 bt537.1 bt537.2.1 bt537.2.2.1 bt537.2.2.2).bind fun bt543 => ((laws_toAlphabet.f k a0_0 l0_1).bind fun bt547 => ((laws_toAutomaton.f k a1_0 a1_1 a1_2 l1_3).bind fun bt552 => ((impl_DiamondFault.f k bt547.1 bt547.2 bt552.1 bt552.2.1 bt552.2.2.1 bt552.2.2.2).bind fun bt559 => ((laws_eqInt64S.f k bt559.1 bt543.1).bind fun t563 => (if t563 = true then (laws_FnExactDiamondFault.j0 k bt543.1 bt543.2 bt559.1 bt559.2 (bt559.2 != bt543.2) a0_0 l0_1 a1_0 a1_1 a1_2 l1_3 bt547.1 bt547.2 bt552.1 bt552.2.1 bt552.2.2.1 bt552.2.2.2) else (laws_FnExactDiamondFault.j0 k bt543.1 bt543.2 bt559.1 bt559.2 true a0_0 l0_1 a1_0 a1_1 a1_2 l1_3 bt547.1 bt547.2 bt552.1 bt552.2.1 bt552.2.2.1 bt552.2.2.2)))))))))) = some r := H
  have A10 := Aside0.mk A100
  clear A100
  by_cases c11 : t532 < 0
  ·rw [if_pos c11] at H
   have c11b0 : decide (t532 < 0) = true := decide_eq_true c11
   clear c11
   obtain rfl := Option.some.inj H
   go_enter Tryd.func6, Tryd.ntmps6
   go_wp2_with (first | ((with_reducible refine gate_dst (N := 2) rfl ?_); refine boxS (N := 2) (cs := #[.int .i64 a0_0, .slice A0_1 l0_1.length c0_1]) (t := 24) ?_; intro gb529 hg w12 hbox hb; have n0_ := Aside0.mk (below_step (bW) hb); have n1_ := Aside0.mk (hbox); have n2_ := geW (w := w) hg; have n3_ := geW (w := w) hg; clear HB; have HB := n0_; have BK529 := n1_; have GW529 := n2_; have GE529 := n3_; clear n0_ n1_ n2_ n3_ hb hbox hg) | ((with_reducible refine gate_dst (N := 3) rfl ?_); refine boxS (N := 3) (cs := #[.int .i64 a1_0, .int .i64 a1_1, .int .i64 a1_2, .slice A1_3 l1_3.length c1_3]) (t := 44) ?_; intro gb530 hg w13 hbox hb; have n0_ := Aside0.mk (blkB BK529.out hb); have n1_ := Aside0.mk (below_step (bW) hb); have n2_ := Aside0.mk (hbox); have n3_ := geW (w := w) hg; have n4_ := geW (w := w) hg; have n5_ := Aside0.mk ((by rw [hg]; exact Nat.ne_of_lt (blk_lt (g := gb529) (o := .cells #[.int .i64 a0_0, .slice A0_1 l0_1.length c0_1] 24 (0, 0)) (bP BK529.out)) : gb529 ≠ gb530)); have n6_ := Aside0.mk ((by rw [hg]; exact Nat.ne_of_gt (blk_lt (g := gb529) (o := .cells #[.int .i64 a0_0, .slice A0_1 l0_1.length c0_1] 24 (0, 0)) (bP BK529.out)) : gb530 ≠ gb529)); clear BK529 HB; have BK529 := n0_; have HB := n1_; have BK530 := n2_; have GW530 := n3_; have GE530 := n4_; have NB529_530 := n5_; have NB530_529 := n6_; clear n0_ n1_ n2_ n3_ n4_ n5_ n6_ hb hbox hg; have hnb14 := NB529_530.out; have hnc14 := NB530_529.out; obtain ⟨hcz15_0, hcz15_1⟩ := cells2 BK529.out; obtain ⟨hfz15_0, hfz15_1⟩ := frz2 BK529.out) | ((with_reducible refine gate_callee (f := 12) rfl ?_); refine goesS (some 19) Tryd.func12 #[.agg #[.int .i64 a0_0, .slice A0_1 l0_1.length c0_1], .int .i64 1048576] ?_; (with_reducible refine (laws_szAlphabet.calls a0_0 _ _ l0_1 1048576 t531 _ ?side1 ?side2 A3.out).mono ?_); (case side1 => exact cP (Kd.C_below HR0_1.out HB.out)); (case side2 => exact HC0_1.out); rintro e w16 ⟨rfl, hb⟩; refine ⟨_, rfl, ?_⟩; have n0_ := Aside0.mk (blkB BK529.out hb); have n1_ := Aside0.mk (blkB BK530.out hb); have n2_ := Aside0.mk (below_step (bW) hb); clear BK529 BK530 HB; have BK529 := n0_; have BK530 := n1_; have HB := n2_; clear n0_ n1_ n2_; (try clear hb); (try clear hb2); (try clear hk); (try clear hi); obtain ⟨hcz17_0, hcz17_1, hcz17_2, hcz17_3⟩ := cells4 BK530.out; obtain ⟨hfz17_0, hfz17_1, hfz17_2, hfz17_3⟩ := frz4 BK530.out) | ((with_reducible refine gate_callee (f := 25) rfl ?_); refine goesS (some 24) Tryd.func25 #[.agg #[.int .i64 a1_0, .int .i64 a1_1, .int .i64 a1_2, .slice A1_3 l1_3.length c1_3], .int .i64 t531] ?_; (with_reducible refine (laws_szAutomaton.calls k a1_0 a1_1 a1_2 _ _ l1_3 t531 t532 _ ?side1 ?side2 A10.out).mono ?_); (case side1 => exact cP (Kd.C_below HR1_3.out HB.out)); (case side2 => exact HC1_3.out); rintro e w18 ⟨rfl, hb⟩; refine ⟨_, rfl, ?_⟩; have n0_ := Aside0.mk (blkB BK529.out hb); have n1_ := Aside0.mk (blkB BK530.out hb); have n2_ := Aside0.mk (below_step (bW) hb); clear BK529 BK530 HB; have BK529 := n0_; have BK530 := n1_; have HB := n2_; clear n0_ n1_ n2_; (try clear hb); (try clear hb2); (try clear hk); (try clear hi)))
   go_ret
   exact ⟨eW, bW⟩
  ·rw [if_neg c11] at H
   have c11b0 : decide (t532 < 0) = false := decide_eq_false c11
   clear c11
   replace H := Option.bind_eq_some_iff.mp H
   obtain ⟨⟨t533, t534⟩, A190, H⟩ := H
   replace H : ((laws_toAutomaton.f k a1_0 a1_1 a1_2 l1_3).bind fun bt537 => ((spec_DiamondFault.f k t533 t534 bt537.1 bt537.2.1 bt537.2.2.1 bt537.2.2.2).bind fun bt543 => ((laws_toAlphabet.f k a0_0 l0_1).bind fun bt547 => ((laws_toAutomaton.f k a1_0 a1_1 a1_2 l1_3).bind fun bt552 => ((impl_DiamondFault.f k bt547.1 bt547.2 bt552.1 bt552.2.1 bt552.2.2.1 bt552.2.2.2).bind fun bt559 => ((laws_eqInt64S.f k bt559.1 bt543.1).bind fun t563 => (if t563 = true then (laws_FnExactDiamondFault.j0 k bt543.1 bt543.2 bt559.1 bt559.2 (bt559.2 != bt543.2) a0_0 l0_1 a1_0 a1_1 a1_2 l1_3 bt547.1 bt547.2 bt552.1 bt552.2.1 bt552.2.2.1 bt552.2.2.2) else (laws_FnExactDiamondFault.j0 k bt543.1 bt543.2 bt559.1 bt559.2 true a0_0 l0_1 a1_0 a1_1 a1_2 l1_3 bt547.1 bt547.2 bt552.1 bt552.2.1 bt552.2.2.1 bt552.2.2.2)))))))) = some r := H
   have A19 := Aside0.mk A190
   clear A190
   replace H := Option.bind_eq_some_iff.mp H
   obtain ⟨⟨t537, t538, t539, t540⟩, A200, H⟩ := H
   replace H : ((spec_DiamondFault.f k t533 t534 t537 t538 t539 t540).bind fun bt543 => ((laws_toAlphabet.f k a0_0 l0_1).bind fun bt547 => ((laws_toAutomaton.f k a1_0 a1_1 a1_2 l1_3).bind fun bt552 => ((impl_DiamondFault.f k bt547.1 bt547.2 bt552.1 bt552.2.1 bt552.2.2.1 bt552.2.2.2).bind fun bt559 => ((laws_eqInt64S.f k bt559.1 bt543.1).bind fun t563 => (if t563 = true then (laws_FnExactDiamondFault.j0 k bt543.1 bt543.2 bt559.1 bt559.2 (bt559.2 != bt543.2) a0_0 l0_1 a1_0 a1_1 a1_2 l1_3 bt547.1 bt547.2 bt552.1 bt552.2.1 bt552.2.2.1 bt552.2.2.2) else (laws_FnExactDiamondFault.j0 k bt543.1 bt543.2 bt559.1 bt559.2 true a0_0 l0_1 a1_0 a1_1 a1_2 l1_3 bt547.1 bt547.2 bt552.1 bt552.2.1 bt552.2.2.1 bt552.2.2.2))))))) = some r := H
   have A20 := Aside0.mk A200
   clear A200
   replace H := Option.bind_eq_some_iff.mp H
   obtain ⟨⟨t543, t546⟩, A210, H⟩ := H
   replace H : ((laws_toAlphabet.f k a0_0 l0_1).bind fun bt547 => ((laws_toAutomaton.f k a1_0 a1_1 a1_2 l1_3).bind fun bt552 => ((impl_DiamondFault.f k bt547.1 bt547.2 bt552.1 bt552.2.1 bt552.2.2.1 bt552.2.2.2).bind fun bt559 => ((laws_eqInt64S.f k bt559.1 t543).bind fun t563 => (if t563 = true then (laws_FnExactDiamondFault.j0 k t543 t546 bt559.1 bt559.2 (bt559.2 != t546) a0_0 l0_1 a1_0 a1_1 a1_2 l1_3 bt547.1 bt547.2 bt552.1 bt552.2.1 bt552.2.2.1 bt552.2.2.2) else (laws_FnExactDiamondFault.j0 k t543 t546 bt559.1 bt559.2 true a0_0 l0_1 a1_0 a1_1 a1_2 l1_3 bt547.1 bt547.2 bt552.1 bt552.2.1 bt552.2.2.1 bt552.2.2.2)))))) = some r := H
   have A21 := Aside0.mk A210
   clear A210
   replace H := Option.bind_eq_some_iff.mp H
   obtain ⟨⟨t547, t548⟩, A220, H⟩ := H
   replace H : ((laws_toAutomaton.f k a1_0 a1_1 a1_2 l1_3).bind fun bt552 => ((impl_DiamondFault.f k t547 t548 bt552.1 bt552.2.1 bt552.2.2.1 bt552.2.2.2).bind fun bt559 => ((laws_eqInt64S.f k bt559.1 t543).bind fun t563 => (if t563 = true then (laws_FnExactDiamondFault.j0 k t543 t546 bt559.1 bt559.2 (bt559.2 != t546) a0_0 l0_1 a1_0 a1_1 a1_2 l1_3 t547 t548 bt552.1 bt552.2.1 bt552.2.2.1 bt552.2.2.2) else (laws_FnExactDiamondFault.j0 k t543 t546 bt559.1 bt559.2 true a0_0 l0_1 a1_0 a1_1 a1_2 l1_3 t547 t548 bt552.1 bt552.2.1 bt552.2.2.1 bt552.2.2.2))))) = some r := H
   have A22 := Aside0.mk A220
   clear A220
   replace H := Option.bind_eq_some_iff.mp H
   obtain ⟨⟨t552, t553, t554, t555⟩, A230, H⟩ := H
   replace H : ((impl_DiamondFault.f k t547 t548 t552 t553 t554 t555).bind fun bt559 => ((laws_eqInt64S.f k bt559.1 t543).bind fun t563 => (if t563 = true then (laws_FnExactDiamondFault.j0 k t543 t546 bt559.1 bt559.2 (bt559.2 != t546) a0_0 l0_1 a1_0 a1_1 a1_2 l1_3 t547 t548 t552 t553 t554 t555) else (laws_FnExactDiamondFault.j0 k t543 t546 bt559.1 bt559.2 true a0_0 l0_1 a1_0 a1_1 a1_2 l1_3 t547 t548 t552 t553 t554 t555)))) = some r := H
   have A23 := Aside0.mk A230
   clear A230
   replace H := Option.bind_eq_some_iff.mp H
   obtain ⟨⟨t559, t562⟩, A240, H⟩ := H
   replace H : ((laws_eqInt64S.f k t559 t543).bind fun t563 => (if t563 = true then (laws_FnExactDiamondFault.j0 k t543 t546 t559 t562 (t562 != t546) a0_0 l0_1 a1_0 a1_1 a1_2 l1_3 t547 t548 t552 t553 t554 t555) else (laws_FnExactDiamondFault.j0 k t543 t546 t559 t562 true a0_0 l0_1 a1_0 a1_1 a1_2 l1_3 t547 t548 t552 t553 t554 t555))) = some r := H
   have A24 := Aside0.mk A240
   clear A240
   have HC25 := Aside0.mk H
   clear H
   go_enter Tryd.func6, Tryd.ntmps6
   try go_wp2_with (first | ((with_reducible refine gate_dst (N := 2) rfl ?_); refine boxS (N := 2) (cs := #[.int .i64 a0_0, .slice A0_1 l0_1.length c0_1]) (t := 24) ?_; intro gb529 hg w26 hbox hb; have n0_ := Aside0.mk (below_step (bW) hb); have n1_ := Aside0.mk (hbox); have n2_ := geW (w := w) hg; have n3_ := geW (w := w) hg; clear HB; have HB := n0_; have BK529 := n1_; have GW529 := n2_; have GE529 := n3_; clear n0_ n1_ n2_ n3_ hb hbox hg) | ((with_reducible refine gate_dst (N := 3) rfl ?_); refine boxS (N := 3) (cs := #[.int .i64 a1_0, .int .i64 a1_1, .int .i64 a1_2, .slice A1_3 l1_3.length c1_3]) (t := 44) ?_; intro gb530 hg w27 hbox hb; have n0_ := Aside0.mk (blkB BK529.out hb); have n1_ := Aside0.mk (below_step (bW) hb); have n2_ := Aside0.mk (hbox); have n3_ := geW (w := w) hg; have n4_ := geW (w := w) hg; have n5_ := Aside0.mk ((by rw [hg]; exact Nat.ne_of_lt (blk_lt (g := gb529) (o := .cells #[.int .i64 a0_0, .slice A0_1 l0_1.length c0_1] 24 (0, 0)) (bP BK529.out)) : gb529 ≠ gb530)); have n6_ := Aside0.mk ((by rw [hg]; exact Nat.ne_of_gt (blk_lt (g := gb529) (o := .cells #[.int .i64 a0_0, .slice A0_1 l0_1.length c0_1] 24 (0, 0)) (bP BK529.out)) : gb530 ≠ gb529)); clear BK529 HB; have BK529 := n0_; have HB := n1_; have BK530 := n2_; have GW530 := n3_; have GE530 := n4_; have NB529_530 := n5_; have NB530_529 := n6_; clear n0_ n1_ n2_ n3_ n4_ n5_ n6_ hb hbox hg; have hnb28 := NB529_530.out; have hnc28 := NB530_529.out; obtain ⟨hcz29_0, hcz29_1⟩ := cells2 BK529.out; obtain ⟨hfz29_0, hfz29_1⟩ := frz2 BK529.out) | ((with_reducible refine gate_callee (f := 12) rfl ?_); refine goesS (some 19) Tryd.func12 #[.agg #[.int .i64 a0_0, .slice A0_1 l0_1.length c0_1], .int .i64 1048576] ?_; (with_reducible refine (laws_szAlphabet.calls a0_0 _ _ l0_1 1048576 t531 _ ?side1 ?side2 A3.out).mono ?_); (case side1 => exact cP (Kd.C_below HR0_1.out HB.out)); (case side2 => exact HC0_1.out); rintro e w30 ⟨rfl, hb⟩; refine ⟨_, rfl, ?_⟩; have n0_ := Aside0.mk (blkB BK529.out hb); have n1_ := Aside0.mk (blkB BK530.out hb); have n2_ := Aside0.mk (below_step (bW) hb); clear BK529 BK530 HB; have BK529 := n0_; have BK530 := n1_; have HB := n2_; clear n0_ n1_ n2_; (try clear hb); (try clear hb2); (try clear hk); (try clear hi); obtain ⟨hcz31_0, hcz31_1, hcz31_2, hcz31_3⟩ := cells4 BK530.out; obtain ⟨hfz31_0, hfz31_1, hfz31_2, hfz31_3⟩ := frz4 BK530.out) | ((with_reducible refine gate_callee (f := 25) rfl ?_); refine goesS (some 24) Tryd.func25 #[.agg #[.int .i64 a1_0, .int .i64 a1_1, .int .i64 a1_2, .slice A1_3 l1_3.length c1_3], .int .i64 t531] ?_; (with_reducible refine (laws_szAutomaton.calls k a1_0 a1_1 a1_2 _ _ l1_3 t531 t532 _ ?side1 ?side2 A10.out).mono ?_); (case side1 => exact cP (Kd.C_below HR1_3.out HB.out)); (case side2 => exact HC1_3.out); rintro e w32 ⟨rfl, hb⟩; refine ⟨_, rfl, ?_⟩; have n0_ := Aside0.mk (blkB BK529.out hb); have n1_ := Aside0.mk (blkB BK530.out hb); have n2_ := Aside0.mk (below_step (bW) hb); clear BK529 BK530 HB; have BK529 := n0_; have BK530 := n1_; have HB := n2_; clear n0_ n1_ n2_; (try clear hb); (try clear hb2); (try clear hk); (try clear hi)))
   have n0_ := Aside0.mk (blk_drew BK529.out)
   have n1_ := Aside0.mk (blk_drew BK530.out)
   have n2_ := Aside0.mk (below_drew1 HB.out)
   clear BK529 BK530 HB; have BK529 := n0_; have BK530 := n1_; have HB := n2_; clear n0_ n1_ n2_
   refine start_ (n := 10) (S := fun w' => w'.cell? ⟨gb529, 0, none⟩ = some (.int .i64 a0_0) ∧ w'.cell? ⟨gb529, 1, none⟩ = some (.slice A0_1 l0_1.length c0_1) ∧ w'.cell? ⟨gb530, 0, none⟩ = some (.int .i64 a1_0) ∧ w'.cell? ⟨gb530, 1, none⟩ = some (.int .i64 a1_1) ∧ w'.cell? ⟨gb530, 2, none⟩ = some (.int .i64 a1_2) ∧ w'.cell? ⟨gb530, 3, none⟩ = some (.slice A1_3 l1_3.length c1_3)) (ds := []) #[false, false, false, false, false, false, false, false, false, false] (by kernel_rfl) rfl rfl ⟨(blk_cell BK529.out 0).trans rfl, (blk_cell BK529.out 1).trans rfl, (blk_cell BK530.out 0).trans rfl, (blk_cell BK530.out 1).trans rfl, (blk_cell BK530.out 2).trans rfl, (blk_cell BK530.out 3).trans rfl⟩ (fun hHeld => ?_); refine with_tabW laws_FnExactDiamondFault.tab8 laws_FnExactDiamondFault.bits8 (fun HT_ HW_ => ?_)
   generalize w32.drew = w33 at BK529 BK530 HB hHeld ⊢
   refine takeS (i := 0) (N := some 28) (take_ofW HT_.out HW_.out (by kernel_rfl)) hHeld ?_
   refine takeS (i := 2) (N := some 30) (take_ofW HT_.out HW_.out (by kernel_rfl)) hHeld ?_
   refine one_ (i := 1) (N := some 29) #[true, true, true, false, false, false, false, false, false, false] rfl rfl (one_of HT_.out (by kernel_rfl)) (by decide) (fun K hK => ?_)
   refine goes_ Tryd.func15 (by kernel_rfl) rfl #[.agg #[.int .i64 a0_0, .slice A0_1 l0_1.length c0_1]] (by rfl) rfl rfl (by (try simp only [List.map_toArray, List.map_cons, List.map_nil]); first | done | rfl | (simp only [List.length_drop, List.length_take]; rfl)) ?_
   with_reducible refine (laws_toAlphabet.calls k a0_0 _ _ l0_1 t533 t534 _ ?side1 ?side2 A19.out).mono ?_
   (case side1 => exact cP (Kd.C_below HR0_1.out HB.out))
   (case side2 => exact HC0_1.out)
   rintro e w34 ⟨v535, rfl, ho0, hb⟩
   refine ⟨_, rfl, ?_⟩
   have n0_ := Aside0.mk (Kd.R_lower ho0 (below_size (bW)))
   have n1_ := Aside0.mk (blkB BK529.out hb)
   have n2_ := Aside0.mk (blkB BK530.out hb)
   have n3_ := Aside0.mk (below_step (bW) hb)
   clear BK529 BK530 HB; have HO536 := n0_; have BK529 := n1_; have BK530 := n2_; have HB := n3_; clear n0_ n1_ n2_ n3_
   (try clear hb)
   (try clear hb2)
   (try clear hk)
   (try clear hi)
   (try clear ho0)
   refine hK.out _ _ ⟨(blk_cell BK529.out 0).trans rfl, (blk_cell BK529.out 1).trans rfl, (blk_cell BK530.out 0).trans rfl, (blk_cell BK530.out 1).trans rfl, (blk_cell BK530.out 2).trans rfl, (blk_cell BK530.out 3).trans rfl⟩ (fun hHeld => ?_)
   clear hK K
   refine norm_ (a' := ?_) ?_ ?_
   rotate_left
   ·show Act.put _ (some 29) _ = _
    simp only [Act.put, List.setIfInBounds_toArray, List.set_cons_zero, List.set_cons_succ, i64_w, i32_w]
    rfl
   refine one_ (i := 3) (N := some 31) #[true, true, true, true, false, false, false, false, false, false] rfl rfl (one_of HT_.out (by kernel_rfl)) (by decide) (fun K hK => ?_)
   refine goes_ Tryd.func27 (by kernel_rfl) rfl #[.agg #[.int .i64 a1_0, .int .i64 a1_1, .int .i64 a1_2, .slice A1_3 l1_3.length c1_3]] (by rfl) rfl rfl (by (try simp only [List.map_toArray, List.map_cons, List.map_nil]); first | done | rfl | (simp only [List.length_drop, List.length_take]; rfl)) ?_
   with_reducible refine (laws_toAutomaton.calls k a1_0 a1_1 a1_2 _ _ l1_3 t537 t538 t539 t540 _ ?side1 ?side2 A20.out).mono ?_
   (case side1 => exact cP (Kd.C_below HR1_3.out HB.out))
   (case side2 => exact HC1_3.out)
   rintro e w35 ⟨v541, rfl, ho0, hb⟩
   refine ⟨_, rfl, ?_⟩
   have n0_ := Aside0.mk (Kd.R_below (rP HO536.out) hb)
   have n1_ := Aside0.mk (Kd.S_lower (Kd.S_new' ho0 (Kd.R_lt (rP HO536.out))) (below_size (bW)))
   have n2_ := Aside0.mk (blkB BK529.out hb)
   have n3_ := Aside0.mk (blkB BK530.out hb)
   have n4_ := Aside0.mk (below_step (bW) hb)
   clear HO536 BK529 BK530 HB; have HO536 := n0_; have HO542 := n1_; have BK529 := n2_; have BK530 := n3_; have HB := n4_; clear n0_ n1_ n2_ n3_ n4_
   (try clear hb)
   (try clear hb2)
   (try clear hk)
   (try clear hi)
   (try clear ho0)
   obtain ⟨Ao36, co36, eo36⟩ := Kd.R_slice HO536.out
   (first | subst eo36 | (injection eo36 with f1_ f2_ f3_; have f4_ := f1_.symm; have f5_ := f3_.symm; clear f1_ f2_ f3_; subst f4_; subst f5_))
   obtain ⟨Ao37, co37, eo37⟩ := Kd.S_slice HO542.out
   (first | subst eo37 | (injection eo37 with f1_ f2_ f3_; have f4_ := f1_.symm; have f5_ := f3_.symm; clear f1_ f2_ f3_; subst f4_; subst f5_))
   refine hK.out _ _ ⟨(blk_cell BK529.out 0).trans rfl, (blk_cell BK529.out 1).trans rfl, (blk_cell BK530.out 0).trans rfl, (blk_cell BK530.out 1).trans rfl, (blk_cell BK530.out 2).trans rfl, (blk_cell BK530.out 3).trans rfl⟩ (fun hHeld => ?_)
   clear hK K
   refine norm_ (a' := ?_) ?_ ?_
   rotate_left
   ·show Act.put _ (some 31) _ = _
    simp only [Act.put, List.setIfInBounds_toArray, List.set_cons_zero, List.set_cons_succ, i64_w, i32_w]
    rfl
   refine one_ (i := 4) (N := some 32) #[true, true, true, true, true, false, false, false, false, false] rfl rfl (one_of HT_.out (by kernel_rfl)) (by decide) (fun K hK => ?_)
   refine goes_ Tryd.func30 (by kernel_rfl) rfl #[.agg #[.int .i64 t533, .slice Ao36 t534.length co36], .agg #[.int .i64 t537, .int .i64 t538, .int .i64 t539, .slice Ao37 t540.length co37]] (by rfl) rfl rfl (by (try simp only [List.map_toArray, List.map_cons, List.map_nil]); first | done | rfl | (simp only [List.length_drop, List.length_take]; rfl)) ?_
   with_reducible refine (spec_DiamondFault.calls k t533 _ _ t534 t537 t538 t539 _ _ t540 t543 t546 _ ?side1 ?side2 ?side3 ?side4 A21.out).mono ?_
   (case side1 => exact cP ((Kd.R_reads' HO536.out).2.2))
   (case side2 => exact (Kd.R_reads' HO536.out).2.1)
   (case side3 => exact cP ((Kd.S_reads' HO542.out).2.2))
   (case side4 => exact (Kd.S_reads' HO542.out).2.1)
   rintro e w38 ⟨v544, rfl, ho0, hb⟩
   refine ⟨_, rfl, ?_⟩
   have n0_ := Aside0.mk (Kd.R_elder' (rP HO536.out) (Kd.R_base ho0) hb)
   have n1_ := Aside0.mk (Kd.S_elder' (sP HO542.out) (Kd.R_base ho0) hb)
   have n2_ := Aside0.mk (Kd.R_lower (Kd.R_new' ho0 (Kd.R_lt (rP HO536.out))) (below_size (bW)))
   have n3_ := Aside0.mk (blkB BK529.out hb)
   have n4_ := Aside0.mk (blkB BK530.out hb)
   have n5_ := Aside0.mk (below_step (bW) hb)
   clear HO536 HO542 BK529 BK530 HB; have HO536 := n0_; have HO542 := n1_; have HO545 := n2_; have BK529 := n3_; have BK530 := n4_; have HB := n5_; clear n0_ n1_ n2_ n3_ n4_ n5_
   (try clear hb)
   (try clear hb2)
   (try clear hk)
   (try clear hi)
   (try clear ho0)
   refine hK.out _ _ ⟨(blk_cell BK529.out 0).trans rfl, (blk_cell BK529.out 1).trans rfl, (blk_cell BK530.out 0).trans rfl, (blk_cell BK530.out 1).trans rfl, (blk_cell BK530.out 2).trans rfl, (blk_cell BK530.out 3).trans rfl⟩ (fun hHeld => ?_)
   clear hK K
   refine norm_ (a' := ?_) ?_ ?_
   rotate_left
   ·show Act.put _ (some 32) _ = _
    simp only [Act.put, List.setIfInBounds_toArray, List.set_cons_zero, List.set_cons_succ, i64_w, i32_w]
    rfl
   refine pureS (i := 5) (N := some 27) (any_of HT_.out (by kernel_rfl)) ?_
   refine pureS (i := 6) (N := some 33) (any_of HT_.out (by kernel_rfl)) ?_
   refine pureS (i := 7) (N := some 34) (any_of HT_.out (by kernel_rfl)) ?_
   refine pureS (i := 8) (N := some 6) (any_of HT_.out (by kernel_rfl)) ?_
   refine pureS (i := 9) (N := some 7) (any_of HT_.out (by kernel_rfl)) ?_
   refine done_ (done_of HT_.out (by kernel_rfl)) ?_
   have hcz39_0 : w38.cell? ⟨gb529, 0, none⟩ = some (.int .i64 a0_0) := (blk_cell BK529.out 0).trans rfl
   have hcz39_1 : w38.cell? ⟨gb529, 1, none⟩ = some (.slice A0_1 l0_1.length c0_1) := (blk_cell BK529.out 1).trans rfl
   have hfz39_0 := blk_frozen BK529.out 0
   have hfz39_1 := blk_frozen BK529.out 1
   go_upto_region 12 with (first | ((with_reducible refine gate_callee (f := 15) rfl ?_); refine goesS (some 36) Tryd.func15 #[.agg #[.int .i64 a0_0, .slice A0_1 l0_1.length c0_1]] ?_; (with_reducible refine (laws_toAlphabet.calls k a0_0 _ _ l0_1 t547 t548 _ ?side1 ?side2 A22.out).mono ?_); (case side1 => exact cP (Kd.C_below HR0_1.out HB.out)); (case side2 => exact HC0_1.out); rintro e w40 ⟨v549, rfl, ho0, hb⟩; refine ⟨_, rfl, ?_⟩; have n0_ := Aside0.mk (Kd.R_elder' (rP HO536.out) (Kd.R_base ho0) hb); have n1_ := Aside0.mk (Kd.S_elder' (sP HO542.out) (Kd.R_base ho0) hb); have n2_ := Aside0.mk (Kd.R_elder' (rP HO545.out) (Kd.R_base ho0) hb); have n3_ := Aside0.mk (Kd.R_lower (Kd.R_new' (Kd.R_new' ho0 (Kd.R_lt (rP HO536.out))) (Kd.R_lt (rP HO545.out))) (below_size (bW))); have n4_ := Aside0.mk (blkB BK529.out hb); have n5_ := Aside0.mk (blkB BK530.out hb); have n6_ := Aside0.mk (below_step (bW) hb); clear HO536 HO542 HO545 BK529 BK530 HB; have HO536 := n0_; have HO542 := n1_; have HO545 := n2_; have HO550 := n3_; have BK529 := n4_; have BK530 := n5_; have HB := n6_; clear n0_ n1_ n2_ n3_ n4_ n5_ n6_; (try clear hb); (try clear hb2); (try clear hk); (try clear hi); (try clear ho0)) | ((with_reducible refine gate_dst (N := 8) rfl ?_); refine boxS (N := 8) (cs := #[.int .i64 0, .slice none 0 0]) (t := 29) ?_; intro gb551 hg w41 hbox hb; have n0_ := Aside0.mk (Kd.R_below (rP HO536.out) hb); have n1_ := Aside0.mk (Kd.S_below (sP HO542.out) hb); have n2_ := Aside0.mk (Kd.R_below (rP HO545.out) hb); have n3_ := Aside0.mk (Kd.R_below (rP HO550.out) hb); have n4_ := Aside0.mk (blkB BK529.out hb); have n5_ := Aside0.mk (blkB BK530.out hb); have n6_ := Aside0.mk (below_step (bW) hb); have n7_ := Aside0.mk (hbox); have n8_ := geW (w := w) hg; have n9_ := geW (w := w) hg; have n10_ := Aside0.mk ((by rw [hg]; exact Nat.ne_of_lt (blk_lt (g := gb529) (o := .cells #[.int .i64 a0_0, .slice A0_1 l0_1.length c0_1] 24 (0, 0)) (bP BK529.out)) : gb529 ≠ gb551)); have n11_ := Aside0.mk ((by rw [hg]; exact Nat.ne_of_gt (blk_lt (g := gb529) (o := .cells #[.int .i64 a0_0, .slice A0_1 l0_1.length c0_1] 24 (0, 0)) (bP BK529.out)) : gb551 ≠ gb529)); have n12_ := Aside0.mk ((by rw [hg]; exact Nat.ne_of_lt (blk_lt (g := gb530) (o := .cells #[.int .i64 a1_0, .int .i64 a1_1, .int .i64 a1_2, .slice A1_3 l1_3.length c1_3] 44 (0, 0)) (bP BK530.out)) : gb530 ≠ gb551)); have n13_ := Aside0.mk ((by rw [hg]; exact Nat.ne_of_gt (blk_lt (g := gb530) (o := .cells #[.int .i64 a1_0, .int .i64 a1_1, .int .i64 a1_2, .slice A1_3 l1_3.length c1_3] 44 (0, 0)) (bP BK530.out)) : gb551 ≠ gb530)); clear HO536 HO542 HO545 HO550 BK529 BK530 HB; have HO536 := n0_; have HO542 := n1_; have HO545 := n2_; have HO550 := n3_; have BK529 := n4_; have BK530 := n5_; have HB := n6_; have BK551 := n7_; have GW551 := n8_; have GE551 := n9_; have NB529_551 := n10_; have NB551_529 := n11_; have NB530_551 := n12_; have NB551_530 := n13_; clear n0_ n1_ n2_ n3_ n4_ n5_ n6_ n7_ n8_ n9_ n10_ n11_ n12_ n13_ hb hbox hg; have hnb42 := NB551_529.out; have hnc42 := NB529_551.out; have hnb43 := NB551_530.out; have hnc43 := NB530_551.out; obtain ⟨hcz44_0, hcz44_1⟩ := cells2 BK551.out; obtain ⟨hfz44_0, hfz44_1⟩ := frz2 BK551.out; obtain ⟨Ao45, co45, eo45⟩ := Kd.R_slice HO550.out; subst eo45; obtain ⟨hcz46_0, hcz46_1, hcz46_2, hcz46_3⟩ := cells4 BK530.out; obtain ⟨hfz46_0, hfz46_1, hfz46_2, hfz46_3⟩ := frz4 BK530.out) | ((with_reducible refine gate_callee (f := 27) rfl ?_); refine goesS (some 38) Tryd.func27 #[.agg #[.int .i64 a1_0, .int .i64 a1_1, .int .i64 a1_2, .slice A1_3 l1_3.length c1_3]] ?_; (with_reducible refine (laws_toAutomaton.calls k a1_0 a1_1 a1_2 _ _ l1_3 t552 t553 t554 t555 _ ?side1 ?side2 A23.out).mono ?_); (case side1 => exact Kd.C_below HR1_3.out (bW)); (case side2 => exact HC1_3.out); rintro e w47 ⟨v556, rfl, ho0, hb⟩; refine ⟨_, rfl, ?_⟩; have n0_ := Aside0.mk (Kd.R_below (by (with_reducible repeat (first | apply Kd.R_alloc | apply Kd.R_drewN | apply Kd.R_drew)); exact (Kd.R_mono (Kd.R_far (p := ⟨gb551, 1, none⟩) (Kd.R_far (p := ⟨gb551, 0, none⟩) (Kd.R_types HO536.out BK551.out (by decide)) (fun _ hk => hk.2) (.int .i64 t547)) (fun _ hk => hk.2) (.slice Ao45 t548.length co45)) (fun _ h_ => h_.1))) hb); have n1_ := Aside0.mk (Kd.S_elder' (by (with_reducible repeat (first | apply Kd.S_alloc | apply Kd.S_drewN | apply Kd.S_drew)); exact (Kd.S_mono (Kd.S_far (p := ⟨gb551, 1, none⟩) (Kd.S_far (p := ⟨gb551, 0, none⟩) (Kd.S_types HO542.out BK551.out (by decide)) (fun _ hk => hk.2) (.int .i64 t547)) (fun _ hk => hk.2) (.slice Ao45 t548.length co45)) (fun _ h_ => h_.1))) (Kd.S_base ho0) hb); have n2_ := Aside0.mk (Kd.R_below (by (with_reducible repeat (first | apply Kd.R_alloc | apply Kd.R_drewN | apply Kd.R_drew)); exact (Kd.R_mono (Kd.R_far (p := ⟨gb551, 1, none⟩) (Kd.R_far (p := ⟨gb551, 0, none⟩) (Kd.R_types HO545.out BK551.out (by decide)) (fun _ hk => hk.2) (.int .i64 t547)) (fun _ hk => hk.2) (.slice Ao45 t548.length co45)) (fun _ h_ => h_.1))) hb); have n3_ := Aside0.mk (Kd.R_below (by (with_reducible repeat (first | apply Kd.R_alloc | apply Kd.R_drewN | apply Kd.R_drew)); exact (Kd.R_mono (Kd.R_far (p := ⟨gb551, 1, none⟩) (Kd.R_far (p := ⟨gb551, 0, none⟩) (Kd.R_types HO550.out BK551.out (by decide)) (fun _ hk => hk.2) (.int .i64 t547)) (fun _ hk => hk.2) (.slice Ao45 t548.length co45)) (fun _ h_ => h_.1))) hb); have n4_ := Aside0.mk (Kd.S_lower (Kd.S_new' (Kd.S_new' (Kd.S_new' (Kd.S_new' ho0 (Kd.R_lt (by (with_reducible repeat (first | apply Kd.R_alloc | apply Kd.R_drewN | apply Kd.R_drew)); exact (Kd.R_mono (Kd.R_far (p := ⟨gb551, 1, none⟩) (Kd.R_far (p := ⟨gb551, 0, none⟩) (Kd.R_types HO536.out BK551.out (by decide)) (fun _ hk => hk.2) (.int .i64 t547)) (fun _ hk => hk.2) (.slice Ao45 t548.length co45)) (fun _ h_ => h_.1))))) (Kd.S_lt (by (with_reducible repeat (first | apply Kd.S_alloc | apply Kd.S_drewN | apply Kd.S_drew)); exact (Kd.S_mono (Kd.S_far (p := ⟨gb551, 1, none⟩) (Kd.S_far (p := ⟨gb551, 0, none⟩) (Kd.S_types HO542.out BK551.out (by decide)) (fun _ hk => hk.2) (.int .i64 t547)) (fun _ hk => hk.2) (.slice Ao45 t548.length co45)) (fun _ h_ => h_.1))))) (Kd.R_lt (by (with_reducible repeat (first | apply Kd.R_alloc | apply Kd.R_drewN | apply Kd.R_drew)); exact (Kd.R_mono (Kd.R_far (p := ⟨gb551, 1, none⟩) (Kd.R_far (p := ⟨gb551, 0, none⟩) (Kd.R_types HO545.out BK551.out (by decide)) (fun _ hk => hk.2) (.int .i64 t547)) (fun _ hk => hk.2) (.slice Ao45 t548.length co45)) (fun _ h_ => h_.1))))) (Kd.R_lt (by (with_reducible repeat (first | apply Kd.R_alloc | apply Kd.R_drewN | apply Kd.R_drew)); exact (Kd.R_mono (Kd.R_far (p := ⟨gb551, 1, none⟩) (Kd.R_far (p := ⟨gb551, 0, none⟩) (Kd.R_types HO550.out BK551.out (by decide)) (fun _ hk => hk.2) (.int .i64 t547)) (fun _ hk => hk.2) (.slice Ao45 t548.length co45)) (fun _ h_ => h_.1))))) (below_size (bW))); have n5_ := Aside0.mk (blk_below (g := gb529) (o := .cells #[.int .i64 a0_0, .slice A0_1 l0_1.length c0_1] 24 (0, 0)) (by (with_reducible repeat (first | refine blk_drewN ?_ _ | refine blk_drew ?_ | refine blk_alloc ?_ _)); refine blk_far ?_ NB529_551.out _; (with_reducible repeat (first | refine blk_drewN ?_ _ | refine blk_drew ?_ | refine blk_alloc ?_ _)); refine blk_far ?_ NB529_551.out _; exact bP BK529.out) hb); have n6_ := Aside0.mk (blk_below (g := gb530) (o := .cells #[.int .i64 a1_0, .int .i64 a1_1, .int .i64 a1_2, .slice A1_3 l1_3.length c1_3] 44 (0, 0)) (by (with_reducible repeat (first | refine blk_drewN ?_ _ | refine blk_drew ?_ | refine blk_alloc ?_ _)); refine blk_far ?_ NB530_551.out _; (with_reducible repeat (first | refine blk_drewN ?_ _ | refine blk_drew ?_ | refine blk_alloc ?_ _)); refine blk_far ?_ NB530_551.out _; exact bP BK530.out) hb); have n7_ := Aside0.mk (blk_below (g := gb551) (o := .cells #[.int .i64 t547, .slice Ao45 t548.length co45] 29 (0, 0)) (by (with_reducible repeat (first | refine blk_drewN ?_ _ | refine blk_drew ?_ | refine blk_alloc ?_ _)); refine blk_put (cs := #[.int .i64 t547, .slice none 0 0]) ?_ 1 _ rfl; (with_reducible repeat (first | refine blk_drewN ?_ _ | refine blk_drew ?_ | refine blk_alloc ?_ _)); refine blk_put (cs := #[.int .i64 0, .slice none 0 0]) ?_ 0 _ rfl; exact bP BK551.out) hb); have n8_ := Aside0.mk (below_step (bW) hb); clear HO536 HO542 HO545 HO550 BK529 BK530 BK551 HB; have HO536 := n0_; have HO542 := n1_; have HO545 := n2_; have HO550 := n3_; have HO557 := n4_; have BK529 := n5_; have BK530 := n6_; have BK551 := n7_; have HB := n8_; clear n0_ n1_ n2_ n3_ n4_ n5_ n6_ n7_ n8_; (try clear hb); (try clear hb2); (try clear hk); (try clear hi); (try clear ho0)) | ((with_reducible refine gate_dst (N := 9) rfl ?_); refine boxS (N := 9) (cs := #[.int .i64 0, .int .i64 0, .int .i64 0, .slice none 0 0]) (t := 48) ?_; intro gb558 hg w48 hbox hb; have n0_ := Aside0.mk (Kd.R_below (rP HO536.out) hb); have n1_ := Aside0.mk (Kd.S_below (sP HO542.out) hb); have n2_ := Aside0.mk (Kd.R_below (rP HO545.out) hb); have n3_ := Aside0.mk (Kd.R_below (rP HO550.out) hb); have n4_ := Aside0.mk (Kd.S_below (sP HO557.out) hb); have n5_ := Aside0.mk (blkB BK529.out hb); have n6_ := Aside0.mk (blkB BK530.out hb); have n7_ := Aside0.mk (blkB BK551.out hb); have n8_ := Aside0.mk (below_step (bW) hb); have n9_ := Aside0.mk (hbox); have n10_ := geW (w := w) hg; have n11_ := geW (w := w) hg; have n12_ := Aside0.mk ((by rw [hg]; exact Nat.ne_of_lt (blk_lt (g := gb529) (o := .cells #[.int .i64 a0_0, .slice A0_1 l0_1.length c0_1] 24 (0, 0)) (bP BK529.out)) : gb529 ≠ gb558)); have n13_ := Aside0.mk ((by rw [hg]; exact Nat.ne_of_gt (blk_lt (g := gb529) (o := .cells #[.int .i64 a0_0, .slice A0_1 l0_1.length c0_1] 24 (0, 0)) (bP BK529.out)) : gb558 ≠ gb529)); have n14_ := Aside0.mk ((by rw [hg]; exact Nat.ne_of_lt (blk_lt (g := gb530) (o := .cells #[.int .i64 a1_0, .int .i64 a1_1, .int .i64 a1_2, .slice A1_3 l1_3.length c1_3] 44 (0, 0)) (bP BK530.out)) : gb530 ≠ gb558)); have n15_ := Aside0.mk ((by rw [hg]; exact Nat.ne_of_gt (blk_lt (g := gb530) (o := .cells #[.int .i64 a1_0, .int .i64 a1_1, .int .i64 a1_2, .slice A1_3 l1_3.length c1_3] 44 (0, 0)) (bP BK530.out)) : gb558 ≠ gb530)); have n16_ := Aside0.mk ((by rw [hg]; exact Nat.ne_of_lt (blk_lt (g := gb551) (o := .cells #[.int .i64 t547, .slice Ao45 t548.length co45] 29 (0, 0)) (bP BK551.out)) : gb551 ≠ gb558)); have n17_ := Aside0.mk ((by rw [hg]; exact Nat.ne_of_gt (blk_lt (g := gb551) (o := .cells #[.int .i64 t547, .slice Ao45 t548.length co45] 29 (0, 0)) (bP BK551.out)) : gb558 ≠ gb551)); clear HO536 HO542 HO545 HO550 HO557 BK529 BK530 BK551 HB; have HO536 := n0_; have HO542 := n1_; have HO545 := n2_; have HO550 := n3_; have HO557 := n4_; have BK529 := n5_; have BK530 := n6_; have BK551 := n7_; have HB := n8_; have BK558 := n9_; have GW558 := n10_; have GE558 := n11_; have NB529_558 := n12_; have NB558_529 := n13_; have NB530_558 := n14_; have NB558_530 := n15_; have NB551_558 := n16_; have NB558_551 := n17_; clear n0_ n1_ n2_ n3_ n4_ n5_ n6_ n7_ n8_ n9_ n10_ n11_ n12_ n13_ n14_ n15_ n16_ n17_ hb hbox hg; have hnb49 := NB558_529.out; have hnc49 := NB529_558.out; have hnb50 := NB558_530.out; have hnc50 := NB530_558.out; have hnb51 := NB558_551.out; have hnc51 := NB551_558.out; obtain ⟨hcz52_0, hcz52_1, hcz52_2, hcz52_3⟩ := cells4 BK558.out; obtain ⟨hfz52_0, hfz52_1, hfz52_2, hfz52_3⟩ := frz4 BK558.out; obtain ⟨Ao53, co53, eo53⟩ := Kd.S_slice HO557.out; subst eo53) | ((with_reducible refine gate_store (t := 48) (p := 9) rfl ?_); refine store_event (t := 48) (p := 9) (v := ?vo_w54) (w1 := ((((w48.setCell ⟨gb558, 0, none⟩ (.int .i64 t552)).setCell ⟨gb558, 1, none⟩ (.int .i64 t553)).setCell ⟨gb558, 2, none⟩ (.int .i64 t554)).setCell ⟨gb558, 3, none⟩ (.slice Ao53 t555.length co53))) ?hg ?ho ?hn ?hr ?_; (case ho => rfl); (case hg => rfl); (case hn => rfl); (case hr => first | (go_simp; done) | (go_simp; rfl)); intro w54 hw; have n0_ : Aside0 (Kd.R (Kd.int .i64) 2 w54 w.heap.size (fun k_ => some k_ ≠ (v544 : Value).ownBlock ∧ some k_ ≠ (.slice Ao45 t548.length co45 : Value).ownBlock) (.slice Ao36 t534.length co36) t534) := ⟨(by rw [hw]; exact (by (with_reducible repeat (first | apply Kd.R_alloc | apply Kd.R_drewN | apply Kd.R_drew)); exact Kd.R_mono (Kd.R_far (p := ⟨gb558, 3, none⟩) (Kd.R_far (p := ⟨gb558, 2, none⟩) (Kd.R_far (p := ⟨gb558, 1, none⟩) (Kd.R_far (p := ⟨gb558, 0, none⟩) (Kd.R_types HO536.out BK558.out (by decide)) (fun _ hk => hk.2) (.int .i64 t552)) (fun _ hk => hk.2) (.int .i64 t553)) (fun _ hk => hk.2) (.int .i64 t554)) (fun _ hk => hk.2) (.slice Ao53 t555.length co53)) (fun _ hk => ⟨hk.1.1.2, hk.1.2⟩)))⟩; have n1_ : Aside0 (Kd.S (Kd.slice 2 (Kd.int .i64)) 22 w54 w.heap.size (fun k_ => some k_ ≠ (.slice Ao36 t534.length co36 : Value).ownBlock ∧ some k_ ≠ (v544 : Value).ownBlock ∧ some k_ ≠ (.slice Ao45 t548.length co45 : Value).ownBlock ∧ some k_ ≠ (.slice Ao53 t555.length co53 : Value).ownBlock) (.slice Ao37 t540.length co37) t540) := ⟨(by rw [hw]; exact (by (with_reducible repeat (first | apply Kd.S_alloc | apply Kd.S_drewN | apply Kd.S_drew)); exact Kd.S_mono (Kd.S_far (p := ⟨gb558, 3, none⟩) (Kd.S_far (p := ⟨gb558, 2, none⟩) (Kd.S_far (p := ⟨gb558, 1, none⟩) (Kd.S_far (p := ⟨gb558, 0, none⟩) (Kd.S_types HO542.out BK558.out (by decide)) (fun _ hk => hk.2) (.int .i64 t552)) (fun _ hk => hk.2) (.int .i64 t553)) (fun _ hk => hk.2) (.int .i64 t554)) (fun _ hk => hk.2) (.slice Ao53 t555.length co53)) (fun _ hk => ⟨hk.1.1.1.1.2, ⟨hk.1.1.1.2, ⟨hk.1.1.2, hk.1.2⟩⟩⟩)))⟩; have n2_ : Aside0 (Kd.R (Kd.int .i64) 2 w54 w.heap.size (fun k_ => some k_ ≠ (.slice Ao36 t534.length co36 : Value).ownBlock ∧ some k_ ≠ (.slice Ao45 t548.length co45 : Value).ownBlock) v544 t543) := ⟨(by rw [hw]; exact (by (with_reducible repeat (first | apply Kd.R_alloc | apply Kd.R_drewN | apply Kd.R_drew)); exact Kd.R_mono (Kd.R_far (p := ⟨gb558, 3, none⟩) (Kd.R_far (p := ⟨gb558, 2, none⟩) (Kd.R_far (p := ⟨gb558, 1, none⟩) (Kd.R_far (p := ⟨gb558, 0, none⟩) (Kd.R_types HO545.out BK558.out (by decide)) (fun _ hk => hk.2) (.int .i64 t552)) (fun _ hk => hk.2) (.int .i64 t553)) (fun _ hk => hk.2) (.int .i64 t554)) (fun _ hk => hk.2) (.slice Ao53 t555.length co53)) (fun _ hk => ⟨hk.1.1.2, hk.1.2⟩)))⟩; have n3_ : Aside0 (Kd.R (Kd.int .i64) 2 w54 w.heap.size (fun k_ => some k_ ≠ (.slice Ao36 t534.length co36 : Value).ownBlock ∧ some k_ ≠ (v544 : Value).ownBlock) (.slice Ao45 t548.length co45) t548) := ⟨(by rw [hw]; exact (by (with_reducible repeat (first | apply Kd.R_alloc | apply Kd.R_drewN | apply Kd.R_drew)); exact Kd.R_mono (Kd.R_far (p := ⟨gb558, 3, none⟩) (Kd.R_far (p := ⟨gb558, 2, none⟩) (Kd.R_far (p := ⟨gb558, 1, none⟩) (Kd.R_far (p := ⟨gb558, 0, none⟩) (Kd.R_types HO550.out BK558.out (by decide)) (fun _ hk => hk.2) (.int .i64 t552)) (fun _ hk => hk.2) (.int .i64 t553)) (fun _ hk => hk.2) (.int .i64 t554)) (fun _ hk => hk.2) (.slice Ao53 t555.length co53)) (fun _ hk => ⟨hk.1.1.2, hk.1.2⟩)))⟩; have n4_ : Aside0 (Kd.S (Kd.slice 2 (Kd.int .i64)) 22 w54 w.heap.size (fun k_ => some k_ ≠ (.slice Ao36 t534.length co36 : Value).ownBlock ∧ some k_ ≠ (.slice Ao37 t540.length co37 : Value).ownBlock ∧ some k_ ≠ (v544 : Value).ownBlock ∧ some k_ ≠ (.slice Ao45 t548.length co45 : Value).ownBlock) (.slice Ao53 t555.length co53) t555) := ⟨(by rw [hw]; exact (by (with_reducible repeat (first | apply Kd.S_alloc | apply Kd.S_drewN | apply Kd.S_drew)); exact Kd.S_mono (Kd.S_far (p := ⟨gb558, 3, none⟩) (Kd.S_far (p := ⟨gb558, 2, none⟩) (Kd.S_far (p := ⟨gb558, 1, none⟩) (Kd.S_far (p := ⟨gb558, 0, none⟩) (Kd.S_types HO557.out BK558.out (by decide)) (fun _ hk => hk.2) (.int .i64 t552)) (fun _ hk => hk.2) (.int .i64 t553)) (fun _ hk => hk.2) (.int .i64 t554)) (fun _ hk => hk.2) (.slice Ao53 t555.length co53)) (fun _ hk => ⟨hk.1.1.1.1.2, ⟨hk.1.1.1.2, ⟨hk.1.1.2, hk.1.2⟩⟩⟩)))⟩; have n5_ : Aside0 (w54.heap[gb529]? = some (.cells #[.int .i64 a0_0, .slice A0_1 l0_1.length c0_1] 24 (0, 0))) := ⟨(by rw [hw]; exact (by (with_reducible repeat (first | refine blk_drewN ?_ _ | refine blk_drew ?_ | refine blk_alloc ?_ _)); refine blk_far ?_ NB529_558.out _; (with_reducible repeat (first | refine blk_drewN ?_ _ | refine blk_drew ?_ | refine blk_alloc ?_ _)); refine blk_far ?_ NB529_558.out _; (with_reducible repeat (first | refine blk_drewN ?_ _ | refine blk_drew ?_ | refine blk_alloc ?_ _)); refine blk_far ?_ NB529_558.out _; (with_reducible repeat (first | refine blk_drewN ?_ _ | refine blk_drew ?_ | refine blk_alloc ?_ _)); refine blk_far ?_ NB529_558.out _; exact bP BK529.out))⟩; have n6_ : Aside0 (w54.heap[gb530]? = some (.cells #[.int .i64 a1_0, .int .i64 a1_1, .int .i64 a1_2, .slice A1_3 l1_3.length c1_3] 44 (0, 0))) := ⟨(by rw [hw]; exact (by (with_reducible repeat (first | refine blk_drewN ?_ _ | refine blk_drew ?_ | refine blk_alloc ?_ _)); refine blk_far ?_ NB530_558.out _; (with_reducible repeat (first | refine blk_drewN ?_ _ | refine blk_drew ?_ | refine blk_alloc ?_ _)); refine blk_far ?_ NB530_558.out _; (with_reducible repeat (first | refine blk_drewN ?_ _ | refine blk_drew ?_ | refine blk_alloc ?_ _)); refine blk_far ?_ NB530_558.out _; (with_reducible repeat (first | refine blk_drewN ?_ _ | refine blk_drew ?_ | refine blk_alloc ?_ _)); refine blk_far ?_ NB530_558.out _; exact bP BK530.out))⟩; have n7_ : Aside0 (w54.heap[gb551]? = some (.cells #[.int .i64 t547, .slice Ao45 t548.length co45] 29 (0, 0))) := ⟨(by rw [hw]; exact (by (with_reducible repeat (first | refine blk_drewN ?_ _ | refine blk_drew ?_ | refine blk_alloc ?_ _)); refine blk_far ?_ NB551_558.out _; (with_reducible repeat (first | refine blk_drewN ?_ _ | refine blk_drew ?_ | refine blk_alloc ?_ _)); refine blk_far ?_ NB551_558.out _; (with_reducible repeat (first | refine blk_drewN ?_ _ | refine blk_drew ?_ | refine blk_alloc ?_ _)); refine blk_far ?_ NB551_558.out _; (with_reducible repeat (first | refine blk_drewN ?_ _ | refine blk_drew ?_ | refine blk_alloc ?_ _)); refine blk_far ?_ NB551_558.out _; exact bP BK551.out))⟩; have n8_ : Aside0 (w54.heap[gb558]? = some (.cells #[.int .i64 t552, .int .i64 t553, .int .i64 t554, .slice Ao53 t555.length co53] 48 (0, 0))) := ⟨(by rw [hw]; exact (by (with_reducible repeat (first | refine blk_drewN ?_ _ | refine blk_drew ?_ | refine blk_alloc ?_ _)); refine blk_put (cs := #[.int .i64 t552, .int .i64 t553, .int .i64 t554, .slice none 0 0]) ?_ 3 _ rfl; (with_reducible repeat (first | refine blk_drewN ?_ _ | refine blk_drew ?_ | refine blk_alloc ?_ _)); refine blk_put (cs := #[.int .i64 t552, .int .i64 t553, .int .i64 0, .slice none 0 0]) ?_ 2 _ rfl; (with_reducible repeat (first | refine blk_drewN ?_ _ | refine blk_drew ?_ | refine blk_alloc ?_ _)); refine blk_put (cs := #[.int .i64 t552, .int .i64 0, .int .i64 0, .slice none 0 0]) ?_ 1 _ rfl; (with_reducible repeat (first | refine blk_drewN ?_ _ | refine blk_drew ?_ | refine blk_alloc ?_ _)); refine blk_put (cs := #[.int .i64 0, .int .i64 0, .int .i64 0, .slice none 0 0]) ?_ 0 _ rfl; exact bP BK558.out))⟩; have n9_ : Aside0 (Below w.heap.size w w54) := ⟨(by rw [hw]; exact (bW))⟩; clear hw HO536 HO542 HO545 HO550 HO557 BK529 BK530 BK551 BK558 HB; have HO536 := n0_; have HO542 := n1_; have HO545 := n2_; have HO550 := n3_; have HO557 := n4_; have BK529 := n5_; have BK530 := n6_; have BK551 := n7_; have BK558 := n8_; have HB := n9_; clear n0_ n1_ n2_ n3_ n4_ n5_ n6_ n7_ n8_ n9_; obtain ⟨hcz55_0, hcz55_1⟩ := cells2 BK551.out; obtain ⟨hfz55_0, hfz55_1⟩ := frz2 BK551.out; obtain ⟨hcz56_0, hcz56_1, hcz56_2, hcz56_3⟩ := cells4 BK558.out; obtain ⟨hfz56_0, hfz56_1, hfz56_2, hfz56_3⟩ := frz4 BK558.out) | ((with_reducible refine gate_callee (f := 31) rfl ?_); refine goesS (some 42) Tryd.func31 #[.agg #[.int .i64 t547, .slice Ao45 t548.length co45], .agg #[.int .i64 t552, .int .i64 t553, .int .i64 t554, .slice Ao53 t555.length co53]] ?_; (with_reducible refine (impl_DiamondFault.calls k t547 _ _ t548 t552 t553 t554 (fun k_ => (((((some k_ ≠ (.slice Ao36 t534.length co36 : Value).ownBlock ∧ (some k_ ≠ (.slice Ao37 t540.length co37 : Value).ownBlock ∧ (some k_ ≠ (v544 : Value).ownBlock ∧ some k_ ≠ (.slice Ao45 t548.length co45 : Value).ownBlock))) ∧ k_ ≠ gb529) ∧ k_ ≠ gb530) ∧ k_ ≠ gb551) ∧ k_ ≠ gb558)) _ _ t555 t559 t562 _ ?side1 ?side2 ?side3 A24.out (tabW HTab.out)).mono ?_); (case side1 => exact cP ((Kd.R_reads' HO550.out).2.2)); (case side2 => exact (Kd.R_reads' HO550.out).2.1); (case side3 => exact Kd.S_V (Kd.S_types (Kd.S_types (Kd.S_types (Kd.S_types (HO557.out) BK529.out (by decide)) BK530.out (by decide)) BK551.out (by decide)) BK558.out (by decide))); rintro e w57 ⟨v560, rfl, ho0, hb⟩; refine ⟨_, rfl, ?_⟩; have n0_ := Aside0.mk (Kd.R_elder' (rP HO536.out) (Kd.R_base ho0) hb); have n1_ := Aside0.mk (Kd.S_elder' (sP HO542.out) (Kd.R_base ho0) hb); have n2_ := Aside0.mk (Kd.R_elder' (rP HO545.out) (Kd.R_base ho0) hb); have n3_ := Aside0.mk (Kd.R_elder' (rP HO550.out) (Kd.R_base ho0) hb); have n4_ := Aside0.mk (Kd.S_elder' (sP HO557.out) (Kd.R_base ho0) hb); have n5_ := Aside0.mk (Kd.R_lower (Kd.R_new' (Kd.R_new' (Kd.R_new' (Kd.R_mono (ok' := fun k_ => True) ho0 (fun _ hk_ => trivial)) (Kd.R_lt (rP HO536.out))) (Kd.R_lt (rP HO545.out))) (Kd.R_lt (rP HO550.out))) (below_size (bW))); have n6_ := Aside0.mk (blkB BK529.out hb); have n7_ := Aside0.mk (blkB BK530.out hb); have n8_ := Aside0.mk (blkB BK551.out hb); have n9_ := Aside0.mk (blkB BK558.out hb); have n10_ := Aside0.mk (below_step (bW) hb); clear HO536 HO542 HO545 HO550 HO557 BK529 BK530 BK551 BK558 HB; have HO536 := n0_; have HO542 := n1_; have HO545 := n2_; have HO550 := n3_; have HO557 := n4_; have HO561 := n5_; have BK529 := n6_; have BK530 := n7_; have BK551 := n8_; have BK558 := n9_; have HB := n10_; clear n0_ n1_ n2_ n3_ n4_ n5_ n6_ n7_ n8_ n9_ n10_; (try clear hb); (try clear hb2); (try clear hk); (try clear hi); (try clear ho0)))
   (try simp only [Act.put, List.setIfInBounds_toArray, List.set_cons_zero, List.set_cons_succ])
   go_cut [53] (fun v53 wc => ∃ (kq : Nat) (x53_24 : Bool), v53 = .bool x53_24 ∧ Aside0 (laws_FnExactDiamondFault.j0 kq t543 t546 t559 t562 x53_24 a0_0 l0_1 a1_0 a1_1 a1_2 l1_3 t547 t548 t552 t553 t554 t555 = some r) ∧ Aside0 (kq ≤ k) ∧ Aside0 (Kd.R (Kd.int .i64) 2 wc w.heap.size (fun k_ => some k_ ≠ (v560 : Value).ownBlock ∧ some k_ ≠ ((.slice Ao45 t548.length co45) : Value).ownBlock) v544 t543) ∧ Aside0 (Kd.R (Kd.int .i64) 2 wc w.heap.size (fun k_ => some k_ ≠ (v544 : Value).ownBlock ∧ some k_ ≠ ((.slice Ao45 t548.length co45) : Value).ownBlock) v560 t559) ∧ Aside0 (Kd.R (Kd.int .i64) 2 wc w.heap.size (fun k_ => some k_ ≠ (v544 : Value).ownBlock ∧ some k_ ≠ (v560 : Value).ownBlock) (.slice Ao45 t548.length co45) t548) ∧ Aside0 (Kd.S (Kd.slice 2 (Kd.int .i64)) 22 wc w.heap.size (fun k_ => some k_ ≠ (v544 : Value).ownBlock ∧ some k_ ≠ (v560 : Value).ownBlock ∧ some k_ ≠ ((.slice Ao45 t548.length co45) : Value).ownBlock) (.slice Ao53 t555.length co53) t555) ∧ Aside0 (wc.heap[gb529]? = some (.cells #[.int .i64 a0_0, (.slice A0_1 l0_1.length c0_1)] 24 (0, 0))) ∧ Aside0 (wc.heap[gb530]? = some (.cells #[.int .i64 a1_0, .int .i64 a1_1, .int .i64 a1_2, (.slice A1_3 l1_3.length c1_3)] 44 (0, 0))) ∧ Aside0 (wc.heap[gb551]? = some (.cells #[.int .i64 t547, (.slice Ao45 t548.length co45)] 29 (0, 0))) ∧ Aside0 (wc.heap[gb558]? = some (.cells #[.int .i64 t552, .int .i64 t553, .int .i64 t554, (.slice Ao53 t555.length co53)] 48 (0, 0))) ∧ Aside0 (Below w.heap.size w wc))
   case first =>
    have H := HC25.out
    clear HC25
    replace H := Option.bind_eq_some_iff.mp H
    obtain ⟨t563, A580, H⟩ := H
    replace H : (if t563 = true then (laws_FnExactDiamondFault.j0 k t543 t546 t559 t562 (t562 != t546) a0_0 l0_1 a1_0 a1_1 a1_2 l1_3 t547 t548 t552 t553 t554 t555) else (laws_FnExactDiamondFault.j0 k t543 t546 t559 t562 true a0_0 l0_1 a1_0 a1_1 a1_2 l1_3 t547 t548 t552 t553 t554 t555)) = some r := H
    have A58 := Aside0.mk A580
    clear A580
    by_cases c59 : t563 = true
    ·subst c59
     have H1 : (laws_FnExactDiamondFault.j0 k t543 t546 t559 t562 (t562 != t546) a0_0 l0_1 a1_0 a1_1 a1_2 l1_3 t547 t548 t552 t553 t554 t555) = some r := by rw [if_pos rfl] at H; exact H
     clear H
     have H := H1
     clear H1
     have H' := Aside0.mk H
     clear H
     obtain ⟨Ao60, co60, eo60⟩ := Kd.R_slice HO561.out
     subst eo60
     obtain ⟨Ao61, co61, eo61⟩ := Kd.R_slice HO545.out
     subst eo61
     go_wp2_with (first | ((with_reducible refine gate_callee (f := 32) rfl ?_); refine goesS (some 47) Tryd.func32 #[.slice Ao60 t559.length co60, .slice Ao61 t543.length co61] ?_; (with_reducible refine (laws_eqInt64S.calls k _ _ t559 _ _ t543 true _ ?side1 ?side2 ?side3 ?side4 A58.out).mono ?_); (case side1 => exact cP ((Kd.R_reads' HO561.out).2.2)); (case side2 => exact (Kd.R_reads' HO561.out).2.1); (case side3 => exact cP ((Kd.R_reads' HO545.out).2.2)); (case side4 => exact (Kd.R_reads' HO545.out).2.1); rintro e w' ⟨rfl, ⟨nd, rfl⟩⟩; refine ⟨_, rfl, ?_⟩))
     go_meet
     case rel => exact ⟨_, ((t562 != t546)), (eW), H', ⟨by first | omega | exact Nat.le_refl _⟩, ⟨by (with_reducible repeat (first | apply Kd.R_alloc | apply Kd.R_drewN | apply Kd.R_drew)); exact Kd.R_mono HO545.out (fun _ hk => ⟨hk.2, hk.1.2⟩)⟩, ⟨by (with_reducible repeat (first | apply Kd.R_alloc | apply Kd.R_drewN | apply Kd.R_drew)); exact Kd.R_mono HO561.out (fun _ hk => ⟨hk.1.2, hk.2⟩)⟩, ⟨by (with_reducible repeat (first | apply Kd.R_alloc | apply Kd.R_drewN | apply Kd.R_drew)); exact Kd.R_mono HO550.out (fun _ hk => ⟨hk.1.2, hk.2⟩)⟩, ⟨by (with_reducible repeat (first | apply Kd.S_alloc | apply Kd.S_drewN | apply Kd.S_drew)); exact Kd.S_mono HO557.out (fun _ hk => ⟨hk.1.2.2.1, ⟨hk.2, hk.1.2.2.2⟩⟩)⟩, ⟨(bP BK529.out)⟩, ⟨(bP BK530.out)⟩, ⟨(bP BK551.out)⟩, ⟨(bP BK558.out)⟩, ⟨bW⟩⟩
    ·replace c59 := Bool.eq_false_iff.mpr c59
     subst c59
     have H1 : (laws_FnExactDiamondFault.j0 k t543 t546 t559 t562 true a0_0 l0_1 a1_0 a1_1 a1_2 l1_3 t547 t548 t552 t553 t554 t555) = some r := by rw [if_neg (show ¬ (false = true) by decide)] at H; exact H
     clear H
     have H := H1
     clear H1
     have H' := Aside0.mk H
     clear H
     obtain ⟨Ao62, co62, eo62⟩ := Kd.R_slice HO561.out
     subst eo62
     obtain ⟨Ao63, co63, eo63⟩ := Kd.R_slice HO545.out
     subst eo63
     go_wp2_with (first | ((with_reducible refine gate_callee (f := 32) rfl ?_); refine goesS (some 47) Tryd.func32 #[.slice Ao62 t559.length co62, .slice Ao63 t543.length co63] ?_; (with_reducible refine (laws_eqInt64S.calls k _ _ t559 _ _ t543 false _ ?side1 ?side2 ?side3 ?side4 A58.out).mono ?_); (case side1 => exact cP ((Kd.R_reads' HO561.out).2.2)); (case side2 => exact (Kd.R_reads' HO561.out).2.1); (case side3 => exact cP ((Kd.R_reads' HO545.out).2.2)); (case side4 => exact (Kd.R_reads' HO545.out).2.1); rintro e w' ⟨rfl, ⟨nd, rfl⟩⟩; refine ⟨_, rfl, ?_⟩))
     go_meet
     case rel => exact ⟨_, (true), (eW), H', ⟨by first | omega | exact Nat.le_refl _⟩, ⟨by (with_reducible repeat (first | apply Kd.R_alloc | apply Kd.R_drewN | apply Kd.R_drew)); exact Kd.R_mono HO545.out (fun _ hk => ⟨hk.2, hk.1.2⟩)⟩, ⟨by (with_reducible repeat (first | apply Kd.R_alloc | apply Kd.R_drewN | apply Kd.R_drew)); exact Kd.R_mono HO561.out (fun _ hk => ⟨hk.1.2, hk.2⟩)⟩, ⟨by (with_reducible repeat (first | apply Kd.R_alloc | apply Kd.R_drewN | apply Kd.R_drew)); exact Kd.R_mono HO550.out (fun _ hk => ⟨hk.1.2, hk.2⟩)⟩, ⟨by (with_reducible repeat (first | apply Kd.S_alloc | apply Kd.S_drewN | apply Kd.S_drew)); exact Kd.S_mono HO557.out (fun _ hk => ⟨hk.1.2.2.1, ⟨hk.2, hk.1.2.2.2⟩⟩)⟩, ⟨(bP BK529.out)⟩, ⟨(bP BK530.out)⟩, ⟨(bP BK551.out)⟩, ⟨(bP BK558.out)⟩, ⟨bW⟩⟩
   case rest =>
    clear HC25
    try clear c1
    try clear c2
    try clear p2
    try clear c3
    try clear c4
    try clear c4b0
    try clear c5
    try clear c6
    try clear c7
    try clear c11
    try clear c11b0
    try clear c12
    try clear c14
    try clear c15
    try clear c25
    try clear c27
    try clear c28
    try clear c30
    try clear c31
    try clear c32
    try clear c42
    try clear c43
    try clear c49
    try clear c50
    try clear c51
    try clear c59
    try clear hcz15_0
    try clear hcz15_1
    try clear hcz17_0
    try clear hcz17_1
    try clear hcz17_2
    try clear hcz17_3
    try clear hcz29_0
    try clear hcz29_1
    try clear hcz31_0
    try clear hcz31_1
    try clear hcz31_2
    try clear hcz31_3
    try clear hcz39_0
    try clear hcz39_1
    try clear hcz44_0
    try clear hcz44_1
    try clear hcz46_0
    try clear hcz46_1
    try clear hcz46_2
    try clear hcz46_3
    try clear hcz52_0
    try clear hcz52_1
    try clear hcz52_2
    try clear hcz52_3
    try clear hcz55_0
    try clear hcz55_1
    try clear hcz56_0
    try clear hcz56_1
    try clear hcz56_2
    try clear hcz56_3
    try clear hcz8_0
    try clear hcz8_1
    try clear hfz15_0
    try clear hfz15_1
    try clear hfz17_0
    try clear hfz17_1
    try clear hfz17_2
    try clear hfz17_3
    try clear hfz29_0
    try clear hfz29_1
    try clear hfz31_0
    try clear hfz31_1
    try clear hfz31_2
    try clear hfz31_3
    try clear hfz39_0
    try clear hfz39_1
    try clear hfz44_0
    try clear hfz44_1
    try clear hfz46_0
    try clear hfz46_1
    try clear hfz46_2
    try clear hfz46_3
    try clear hfz52_0
    try clear hfz52_1
    try clear hfz52_2
    try clear hfz52_3
    try clear hfz55_0
    try clear hfz55_1
    try clear hfz56_0
    try clear hfz56_1
    try clear hfz56_2
    try clear hfz56_3
    try clear hfz8_0
    try clear hfz8_1
    obtain ⟨kq, x53_24, rfl, HA, HJ24, HO_6, HO_10, HO_552001, HO_559003, BK529, BK530, BK551, BK558, HB⟩ := hcut
    cases kq with
    | zero => exact absurd HA.out (by simp [laws_FnExactDiamondFault.j0])
    | succ kj24 =>
     have H := HA.out
     clear HA
     simp only [laws_FnExactDiamondFault.j0] at H
     by_cases c64 : x53_24 = true
     ·subst c64
      have H1 : (some false) = some r := by rw [if_pos rfl] at H; exact H
      clear H
      have H := H1
      clear H1
      exact absurd (Option.some.inj H) (by rw [HTr_.out]; decide)
     ·replace c64 := Bool.eq_false_iff.mpr c64
      subst c64
      have H1 : ((laws_toAlphabet.f kj24 a0_0 l0_1).bind fun bt564 => ((laws_eqAlphabet.f kj24 t547 t548 bt564.1 bt564.2).bind fun t568 => (if t568 = true then ((laws_toAutomaton.f kj24 a1_0 a1_1 a1_2 l1_3).bind fun bt569 => ((laws_eqAutomaton.f kj24 t552 t553 t554 t555 bt569.1 bt569.2.1 bt569.2.2.1 bt569.2.2.2).bind fun t575 => (if t575 = true then ((laws_markAlphabet.f kj24 t547 t548 1).bind fun bt576 => ((laws_markAutomaton.f kj24 t552 t553 t554 t555 bt576.1).bind fun bt578 => (if bt578.1 < 0 then (laws_FnExactDiamondFault.j1 kj24 t543 t546 t559 true a0_0 l0_1 a1_0 a1_1 a1_2 l1_3) else ((laws_eqInt64S.f kj24 t559 t543).bind fun t580 => (if t580 = true then (laws_FnExactDiamondFault.j1 kj24 t543 t546 t559 (t562 != t546) a0_0 l0_1 a1_0 a1_1 a1_2 l1_3) else (laws_FnExactDiamondFault.j1 kj24 t543 t546 t559 true a0_0 l0_1 a1_0 a1_1 a1_2 l1_3)))))) else (some false)))) else (some false)))) = some r := by rw [if_neg (show ¬ (false = true) by decide)] at H; exact H
      clear H
      have H := H1
      clear H1
      replace H := Option.bind_eq_some_iff.mp H
      obtain ⟨⟨t564, t565⟩, A650, H⟩ := H
      replace H : ((laws_eqAlphabet.f kj24 t547 t548 t564 t565).bind fun t568 => (if t568 = true then ((laws_toAutomaton.f kj24 a1_0 a1_1 a1_2 l1_3).bind fun bt569 => ((laws_eqAutomaton.f kj24 t552 t553 t554 t555 bt569.1 bt569.2.1 bt569.2.2.1 bt569.2.2.2).bind fun t575 => (if t575 = true then ((laws_markAlphabet.f kj24 t547 t548 1).bind fun bt576 => ((laws_markAutomaton.f kj24 t552 t553 t554 t555 bt576.1).bind fun bt578 => (if bt578.1 < 0 then (laws_FnExactDiamondFault.j1 kj24 t543 t546 t559 true a0_0 l0_1 a1_0 a1_1 a1_2 l1_3) else ((laws_eqInt64S.f kj24 t559 t543).bind fun t580 => (if t580 = true then (laws_FnExactDiamondFault.j1 kj24 t543 t546 t559 (t562 != t546) a0_0 l0_1 a1_0 a1_1 a1_2 l1_3) else (laws_FnExactDiamondFault.j1 kj24 t543 t546 t559 true a0_0 l0_1 a1_0 a1_1 a1_2 l1_3)))))) else (some false)))) else (some false))) = some r := H
      have A65 := Aside0.mk A650
      clear A650
      replace H := Option.bind_eq_some_iff.mp H
      obtain ⟨t568, A660, H⟩ := H
      replace H : (if t568 = true then ((laws_toAutomaton.f kj24 a1_0 a1_1 a1_2 l1_3).bind fun bt569 => ((laws_eqAutomaton.f kj24 t552 t553 t554 t555 bt569.1 bt569.2.1 bt569.2.2.1 bt569.2.2.2).bind fun t575 => (if t575 = true then ((laws_markAlphabet.f kj24 t547 t548 1).bind fun bt576 => ((laws_markAutomaton.f kj24 t552 t553 t554 t555 bt576.1).bind fun bt578 => (if bt578.1 < 0 then (laws_FnExactDiamondFault.j1 kj24 t543 t546 t559 true a0_0 l0_1 a1_0 a1_1 a1_2 l1_3) else ((laws_eqInt64S.f kj24 t559 t543).bind fun t580 => (if t580 = true then (laws_FnExactDiamondFault.j1 kj24 t543 t546 t559 (t562 != t546) a0_0 l0_1 a1_0 a1_1 a1_2 l1_3) else (laws_FnExactDiamondFault.j1 kj24 t543 t546 t559 true a0_0 l0_1 a1_0 a1_1 a1_2 l1_3)))))) else (some false)))) else (some false)) = some r := H
      have A66 := Aside0.mk A660
      clear A660
      by_cases c67 : t568 = true
      ·subst c67
       have H1 : ((laws_toAutomaton.f kj24 a1_0 a1_1 a1_2 l1_3).bind fun bt569 => ((laws_eqAutomaton.f kj24 t552 t553 t554 t555 bt569.1 bt569.2.1 bt569.2.2.1 bt569.2.2.2).bind fun t575 => (if t575 = true then ((laws_markAlphabet.f kj24 t547 t548 1).bind fun bt576 => ((laws_markAutomaton.f kj24 t552 t553 t554 t555 bt576.1).bind fun bt578 => (if bt578.1 < 0 then (laws_FnExactDiamondFault.j1 kj24 t543 t546 t559 true a0_0 l0_1 a1_0 a1_1 a1_2 l1_3) else ((laws_eqInt64S.f kj24 t559 t543).bind fun t580 => (if t580 = true then (laws_FnExactDiamondFault.j1 kj24 t543 t546 t559 (t562 != t546) a0_0 l0_1 a1_0 a1_1 a1_2 l1_3) else (laws_FnExactDiamondFault.j1 kj24 t543 t546 t559 true a0_0 l0_1 a1_0 a1_1 a1_2 l1_3)))))) else (some false)))) = some r := by rw [if_pos rfl] at H; exact H
       clear H
       have H := H1
       clear H1
       replace H := Option.bind_eq_some_iff.mp H
       obtain ⟨⟨t569, t570, t571, t572⟩, A680, H⟩ := H
       replace H : ((laws_eqAutomaton.f kj24 t552 t553 t554 t555 t569 t570 t571 t572).bind fun t575 => (if t575 = true then ((laws_markAlphabet.f kj24 t547 t548 1).bind fun bt576 => ((laws_markAutomaton.f kj24 t552 t553 t554 t555 bt576.1).bind fun bt578 => (if bt578.1 < 0 then (laws_FnExactDiamondFault.j1 kj24 t543 t546 t559 true a0_0 l0_1 a1_0 a1_1 a1_2 l1_3) else ((laws_eqInt64S.f kj24 t559 t543).bind fun t580 => (if t580 = true then (laws_FnExactDiamondFault.j1 kj24 t543 t546 t559 (t562 != t546) a0_0 l0_1 a1_0 a1_1 a1_2 l1_3) else (laws_FnExactDiamondFault.j1 kj24 t543 t546 t559 true a0_0 l0_1 a1_0 a1_1 a1_2 l1_3)))))) else (some false))) = some r := H
       have A68 := Aside0.mk A680
       clear A680
       replace H := Option.bind_eq_some_iff.mp H
       obtain ⟨t575, A690, H⟩ := H
       replace H : (if t575 = true then ((laws_markAlphabet.f kj24 t547 t548 1).bind fun bt576 => ((laws_markAutomaton.f kj24 t552 t553 t554 t555 bt576.1).bind fun bt578 => (if bt578.1 < 0 then (laws_FnExactDiamondFault.j1 kj24 t543 t546 t559 true a0_0 l0_1 a1_0 a1_1 a1_2 l1_3) else ((laws_eqInt64S.f kj24 t559 t543).bind fun t580 => (if t580 = true then (laws_FnExactDiamondFault.j1 kj24 t543 t546 t559 (t562 != t546) a0_0 l0_1 a1_0 a1_1 a1_2 l1_3) else (laws_FnExactDiamondFault.j1 kj24 t543 t546 t559 true a0_0 l0_1 a1_0 a1_1 a1_2 l1_3)))))) else (some false)) = some r := H
       have A69 := Aside0.mk A690
       clear A690
       by_cases c70 : t575 = true
       ·subst c70
        have H1 : ((laws_markAlphabet.f kj24 t547 t548 1).bind fun bt576 => ((laws_markAutomaton.f kj24 t552 t553 t554 t555 bt576.1).bind fun bt578 => (if bt578.1 < 0 then (laws_FnExactDiamondFault.j1 kj24 t543 t546 t559 true a0_0 l0_1 a1_0 a1_1 a1_2 l1_3) else ((laws_eqInt64S.f kj24 t559 t543).bind fun t580 => (if t580 = true then (laws_FnExactDiamondFault.j1 kj24 t543 t546 t559 (t562 != t546) a0_0 l0_1 a1_0 a1_1 a1_2 l1_3) else (laws_FnExactDiamondFault.j1 kj24 t543 t546 t559 true a0_0 l0_1 a1_0 a1_1 a1_2 l1_3)))))) = some r := by rw [if_pos rfl] at H; exact H
        clear H
        have H := H1
        clear H1
        replace H := Option.bind_eq_some_iff.mp H
        obtain ⟨⟨t576, t577⟩, A710, H⟩ := H
        replace H : ((laws_markAutomaton.f kj24 t552 t553 t554 t555 t576).bind fun bt578 => (if bt578.1 < 0 then (laws_FnExactDiamondFault.j1 kj24 t543 t546 t559 true a0_0 l0_1 a1_0 a1_1 a1_2 l1_3) else ((laws_eqInt64S.f kj24 t559 t543).bind fun t580 => (if t580 = true then (laws_FnExactDiamondFault.j1 kj24 t543 t546 t559 (t562 != t546) a0_0 l0_1 a1_0 a1_1 a1_2 l1_3) else (laws_FnExactDiamondFault.j1 kj24 t543 t546 t559 true a0_0 l0_1 a1_0 a1_1 a1_2 l1_3))))) = some r := H
        have A71 := Aside0.mk A710
        clear A710
        replace H := Option.bind_eq_some_iff.mp H
        obtain ⟨⟨t578, t579⟩, A720, H⟩ := H
        replace H : (if t578 < 0 then (laws_FnExactDiamondFault.j1 kj24 t543 t546 t559 true a0_0 l0_1 a1_0 a1_1 a1_2 l1_3) else ((laws_eqInt64S.f kj24 t559 t543).bind fun t580 => (if t580 = true then (laws_FnExactDiamondFault.j1 kj24 t543 t546 t559 (t562 != t546) a0_0 l0_1 a1_0 a1_1 a1_2 l1_3) else (laws_FnExactDiamondFault.j1 kj24 t543 t546 t559 true a0_0 l0_1 a1_0 a1_1 a1_2 l1_3)))) = some r := H
        have A72 := Aside0.mk A720
        clear A720
        have HC73 := Aside0.mk H
        clear H
        try go_wp2
        have n0_ := Aside0.mk (Kd.R_drew HO_6.out)
        have n1_ := Aside0.mk (Kd.R_drew HO_10.out)
        have n2_ := Aside0.mk (Kd.R_drew HO_552001.out)
        have n3_ := Aside0.mk (Kd.S_drew HO_559003.out)
        have n4_ := Aside0.mk (blk_drew BK529.out)
        have n5_ := Aside0.mk (blk_drew BK530.out)
        have n6_ := Aside0.mk (blk_drew BK551.out)
        have n7_ := Aside0.mk (blk_drew BK558.out)
        have n8_ := Aside0.mk (below_drew1 HB.out)
        clear HO_6 HO_10 HO_552001 HO_559003 BK529 BK530 BK551 BK558 HB; have HO_6 := n0_; have HO_10 := n1_; have HO_552001 := n2_; have HO_559003 := n3_; have BK529 := n4_; have BK530 := n5_; have BK551 := n6_; have BK558 := n7_; have HB := n8_; clear n0_ n1_ n2_ n3_ n4_ n5_ n6_ n7_ n8_
        refine start_ (n := 5) (S := fun w' => w'.cell? ⟨gb551, 0, none⟩ = some (.int .i64 t547) ∧ w'.cell? ⟨gb551, 1, none⟩ = some (.slice Ao45 t548.length co45) ∧ w'.cell? ⟨gb529, 0, none⟩ = some (.int .i64 a0_0) ∧ w'.cell? ⟨gb529, 1, none⟩ = some (.slice A0_1 l0_1.length c0_1)) (ds := []) #[false, false, false, false, false] (by kernel_rfl) rfl rfl ⟨(blk_cell BK551.out 0).trans rfl, (blk_cell BK551.out 1).trans rfl, (blk_cell BK529.out 0).trans rfl, (blk_cell BK529.out 1).trans rfl⟩ (fun hHeld => ?_)
        generalize wc.drew = w74 at HO_6 HO_10 HO_552001 HO_559003 BK529 BK530 BK551 BK558 HB hHeld ⊢
        refine takeS (i := 0) (N := some 54) (by kernel_rfl) hHeld ?_
        refine takeS (i := 1) (N := some 55) (by kernel_rfl) hHeld ?_
        refine one_ (i := 2) (N := some 56) #[true, true, true, false, false] rfl rfl (by kernel_rfl) (by decide) (fun K hK => ?_)
        refine goes_ Tryd.func15 (by kernel_rfl) rfl #[.agg #[.int .i64 a0_0, .slice A0_1 l0_1.length c0_1]] (by rfl) rfl rfl (by (try simp only [List.map_toArray, List.map_cons, List.map_nil]); first | done | rfl | (simp only [List.length_drop, List.length_take]; rfl)) ?_
        with_reducible refine (laws_toAlphabet.calls kj24 a0_0 _ _ l0_1 t564 t565 _ ?side1 ?side2 A65.out).mono ?_
        (case side1 => exact cP (Kd.C_below HR0_1.out HB.out))
        (case side2 => exact HC0_1.out)
        rintro e w75 ⟨v566, rfl, ho0, hb⟩
        refine ⟨_, rfl, ?_⟩
        have n0_ := Aside0.mk (Kd.R_elder' (rP HO_6.out) (Kd.R_base ho0) hb)
        have n1_ := Aside0.mk (Kd.R_elder' (rP HO_10.out) (Kd.R_base ho0) hb)
        have n2_ := Aside0.mk (Kd.R_elder' (rP HO_552001.out) (Kd.R_base ho0) hb)
        have n3_ := Aside0.mk (Kd.S_elder' (sP HO_559003.out) (Kd.R_base ho0) hb)
        have n4_ := Aside0.mk (Kd.R_lower (Kd.R_new' (Kd.R_new' (Kd.R_new' ho0 (Kd.R_lt (rP HO_6.out))) (Kd.R_lt (rP HO_10.out))) (Kd.R_lt (rP HO_552001.out))) (below_size (bW)))
        have n5_ := Aside0.mk (blkB BK529.out hb)
        have n6_ := Aside0.mk (blkB BK530.out hb)
        have n7_ := Aside0.mk (blkB BK551.out hb)
        have n8_ := Aside0.mk (blkB BK558.out hb)
        have n9_ := Aside0.mk (below_step (bW) hb)
        clear HO_6 HO_10 HO_552001 HO_559003 BK529 BK530 BK551 BK558 HB; have HO_6 := n0_; have HO_10 := n1_; have HO_552001 := n2_; have HO_559003 := n3_; have HO567 := n4_; have BK529 := n5_; have BK530 := n6_; have BK551 := n7_; have BK558 := n8_; have HB := n9_; clear n0_ n1_ n2_ n3_ n4_ n5_ n6_ n7_ n8_ n9_
        (try clear hb)
        (try clear hb2)
        (try clear hk)
        (try clear hi)
        (try clear ho0)
        obtain ⟨Ao76, co76, eo76⟩ := Kd.R_slice HO567.out
        (first | subst eo76 | (injection eo76 with f1_ f2_ f3_; have f4_ := f1_.symm; have f5_ := f3_.symm; clear f1_ f2_ f3_; subst f4_; subst f5_))
        refine hK.out _ _ ⟨(blk_cell BK551.out 0).trans rfl, (blk_cell BK551.out 1).trans rfl, (blk_cell BK529.out 0).trans rfl, (blk_cell BK529.out 1).trans rfl⟩ (fun hHeld => ?_)
        clear hK K
        refine norm_ (a' := ?_) ?_ ?_
        rotate_left
        ·show Act.put _ (some 56) _ = _
         simp only [Act.put, List.setIfInBounds_toArray, List.set_cons_zero, List.set_cons_succ, i64_w, i32_w]
         rfl
        refine one_ (i := 3) (N := some 57) #[true, true, true, true, false] rfl rfl (by kernel_rfl) (by decide) (fun K hK => ?_)
        refine goes_ Tryd.func18 (by kernel_rfl) rfl #[.agg #[.int .i64 t547, .slice Ao45 t548.length co45], .agg #[.int .i64 t564, .slice Ao76 t565.length co76]] (by rfl) rfl rfl (by (try simp only [List.map_toArray, List.map_cons, List.map_nil]); first | done | rfl | (simp only [List.length_drop, List.length_take]; rfl)) ?_
        with_reducible refine (laws_eqAlphabet.calls kj24 t547 _ _ t548 t564 _ _ t565 true _ ?side1 ?side2 ?side3 ?side4 A66.out).mono ?_
        (case side1 => exact cP ((Kd.R_reads' HO_552001.out).2.2))
        (case side2 => exact (Kd.R_reads' HO_552001.out).2.1)
        (case side3 => exact cP ((Kd.R_reads' HO567.out).2.2))
        (case side4 => exact (Kd.R_reads' HO567.out).2.1)
        rintro e w77 ⟨rfl, hb⟩
        refine ⟨_, rfl, ?_⟩
        have n0_ := Aside0.mk (Kd.R_below (rP HO_6.out) hb)
        have n1_ := Aside0.mk (Kd.R_below (rP HO_10.out) hb)
        have n2_ := Aside0.mk (Kd.R_below (rP HO_552001.out) hb)
        have n3_ := Aside0.mk (Kd.S_below (sP HO_559003.out) hb)
        have n4_ := Aside0.mk (Kd.R_below (rP HO567.out) hb)
        have n5_ := Aside0.mk (blkB BK529.out hb)
        have n6_ := Aside0.mk (blkB BK530.out hb)
        have n7_ := Aside0.mk (blkB BK551.out hb)
        have n8_ := Aside0.mk (blkB BK558.out hb)
        have n9_ := Aside0.mk (below_step (bW) hb)
        clear HO_6 HO_10 HO_552001 HO_559003 HO567 BK529 BK530 BK551 BK558 HB; have HO_6 := n0_; have HO_10 := n1_; have HO_552001 := n2_; have HO_559003 := n3_; have HO567 := n4_; have BK529 := n5_; have BK530 := n6_; have BK551 := n7_; have BK558 := n8_; have HB := n9_; clear n0_ n1_ n2_ n3_ n4_ n5_ n6_ n7_ n8_ n9_
        (try clear hb)
        (try clear hb2)
        (try clear hk)
        (try clear hi)
        refine hK.out _ _ ⟨(blk_cell BK551.out 0).trans rfl, (blk_cell BK551.out 1).trans rfl, (blk_cell BK529.out 0).trans rfl, (blk_cell BK529.out 1).trans rfl⟩ (fun hHeld => ?_)
        clear hK K
        refine norm_ (a' := ?_) ?_ ?_
        rotate_left
        ·show Act.put _ (some 57) _ = _
         simp only [Act.put, List.setIfInBounds_toArray, List.set_cons_zero, List.set_cons_succ, i64_w, i32_w]
         rfl
        refine pureS (i := 4) (N := some 58) (by kernel_rfl) ?_
        refine done_ (by kernel_rfl) ?_
        try go_wp2
        have n0_ := Aside0.mk (Kd.R_drew HO_6.out)
        have n1_ := Aside0.mk (Kd.R_drew HO_10.out)
        have n2_ := Aside0.mk (Kd.R_drew HO_552001.out)
        have n3_ := Aside0.mk (Kd.S_drew HO_559003.out)
        have n4_ := Aside0.mk (Kd.R_drew HO567.out)
        have n5_ := Aside0.mk (blk_drew BK529.out)
        have n6_ := Aside0.mk (blk_drew BK530.out)
        have n7_ := Aside0.mk (blk_drew BK551.out)
        have n8_ := Aside0.mk (blk_drew BK558.out)
        have n9_ := Aside0.mk (below_drew1 HB.out)
        clear HO_6 HO_10 HO_552001 HO_559003 HO567 BK529 BK530 BK551 BK558 HB; have HO_6 := n0_; have HO_10 := n1_; have HO_552001 := n2_; have HO_559003 := n3_; have HO567 := n4_; have BK529 := n5_; have BK530 := n6_; have BK551 := n7_; have BK558 := n8_; have HB := n9_; clear n0_ n1_ n2_ n3_ n4_ n5_ n6_ n7_ n8_ n9_
        refine start_ (n := 5) (S := fun w' => w'.cell? ⟨gb558, 0, none⟩ = some (.int .i64 t552) ∧ w'.cell? ⟨gb558, 1, none⟩ = some (.int .i64 t553) ∧ w'.cell? ⟨gb558, 2, none⟩ = some (.int .i64 t554) ∧ w'.cell? ⟨gb558, 3, none⟩ = some (.slice Ao53 t555.length co53) ∧ w'.cell? ⟨gb530, 0, none⟩ = some (.int .i64 a1_0) ∧ w'.cell? ⟨gb530, 1, none⟩ = some (.int .i64 a1_1) ∧ w'.cell? ⟨gb530, 2, none⟩ = some (.int .i64 a1_2) ∧ w'.cell? ⟨gb530, 3, none⟩ = some (.slice A1_3 l1_3.length c1_3)) (ds := []) #[false, false, false, false, false] (by kernel_rfl) rfl rfl ⟨(blk_cell BK558.out 0).trans rfl, (blk_cell BK558.out 1).trans rfl, (blk_cell BK558.out 2).trans rfl, (blk_cell BK558.out 3).trans rfl, (blk_cell BK530.out 0).trans rfl, (blk_cell BK530.out 1).trans rfl, (blk_cell BK530.out 2).trans rfl, (blk_cell BK530.out 3).trans rfl⟩ (fun hHeld => ?_)
        generalize w77.drew = w78 at HO_6 HO_10 HO_552001 HO_559003 HO567 BK529 BK530 BK551 BK558 HB hHeld ⊢
        refine takeS (i := 0) (N := some 59) (by kernel_rfl) hHeld ?_
        refine takeS (i := 1) (N := some 60) (by kernel_rfl) hHeld ?_
        refine one_ (i := 2) (N := some 61) #[true, true, true, false, false] rfl rfl (by kernel_rfl) (by decide) (fun K hK => ?_)
        refine goes_ Tryd.func27 (by kernel_rfl) rfl #[.agg #[.int .i64 a1_0, .int .i64 a1_1, .int .i64 a1_2, .slice A1_3 l1_3.length c1_3]] (by rfl) rfl rfl (by (try simp only [List.map_toArray, List.map_cons, List.map_nil]); first | done | rfl | (simp only [List.length_drop, List.length_take]; rfl)) ?_
        with_reducible refine (laws_toAutomaton.calls kj24 a1_0 a1_1 a1_2 _ _ l1_3 t569 t570 t571 t572 _ ?side1 ?side2 A68.out).mono ?_
        (case side1 => exact cP (Kd.C_below HR1_3.out HB.out))
        (case side2 => exact HC1_3.out)
        rintro e w79 ⟨v573, rfl, ho0, hb⟩
        refine ⟨_, rfl, ?_⟩
        have n0_ := Aside0.mk (Kd.R_below (rP HO_6.out) hb)
        have n1_ := Aside0.mk (Kd.R_below (rP HO_10.out) hb)
        have n2_ := Aside0.mk (Kd.R_below (rP HO_552001.out) hb)
        have n3_ := Aside0.mk (Kd.S_elder' (sP HO_559003.out) (Kd.S_base ho0) hb)
        have n4_ := Aside0.mk (Kd.R_below (rP HO567.out) hb)
        have n5_ := Aside0.mk (Kd.S_lower (Kd.S_new' (Kd.S_new' (Kd.S_new' (Kd.S_new' (Kd.S_new' ho0 (Kd.R_lt (rP HO_6.out))) (Kd.R_lt (rP HO_10.out))) (Kd.R_lt (rP HO_552001.out))) (Kd.S_lt (sP HO_559003.out))) (Kd.R_lt (rP HO567.out))) (below_size (bW)))
        have n6_ := Aside0.mk (blkB BK529.out hb)
        have n7_ := Aside0.mk (blkB BK530.out hb)
        have n8_ := Aside0.mk (blkB BK551.out hb)
        have n9_ := Aside0.mk (blkB BK558.out hb)
        have n10_ := Aside0.mk (below_step (bW) hb)
        clear HO_6 HO_10 HO_552001 HO_559003 HO567 BK529 BK530 BK551 BK558 HB; have HO_6 := n0_; have HO_10 := n1_; have HO_552001 := n2_; have HO_559003 := n3_; have HO567 := n4_; have HO574 := n5_; have BK529 := n6_; have BK530 := n7_; have BK551 := n8_; have BK558 := n9_; have HB := n10_; clear n0_ n1_ n2_ n3_ n4_ n5_ n6_ n7_ n8_ n9_ n10_
        (try clear hb)
        (try clear hb2)
        (try clear hk)
        (try clear hi)
        (try clear ho0)
        obtain ⟨Ao80, co80, eo80⟩ := Kd.S_slice HO574.out
        (first | subst eo80 | (injection eo80 with f1_ f2_ f3_; have f4_ := f1_.symm; have f5_ := f3_.symm; clear f1_ f2_ f3_; subst f4_; subst f5_))
        refine hK.out _ _ ⟨(blk_cell BK558.out 0).trans rfl, (blk_cell BK558.out 1).trans rfl, (blk_cell BK558.out 2).trans rfl, (blk_cell BK558.out 3).trans rfl, (blk_cell BK530.out 0).trans rfl, (blk_cell BK530.out 1).trans rfl, (blk_cell BK530.out 2).trans rfl, (blk_cell BK530.out 3).trans rfl⟩ (fun hHeld => ?_)
        clear hK K
        refine norm_ (a' := ?_) ?_ ?_
        rotate_left
        ·show Act.put _ (some 61) _ = _
         simp only [Act.put, List.setIfInBounds_toArray, List.set_cons_zero, List.set_cons_succ, i64_w, i32_w]
         rfl
        refine one_ (i := 3) (N := some 62) #[true, true, true, true, false] rfl rfl (by kernel_rfl) (by decide) (fun K hK => ?_)
        refine goes_ Tryd.func29 (by kernel_rfl) rfl #[.agg #[.int .i64 t552, .int .i64 t553, .int .i64 t554, .slice Ao53 t555.length co53], .agg #[.int .i64 t569, .int .i64 t570, .int .i64 t571, .slice Ao80 t572.length co80]] (by rfl) rfl rfl (by (try simp only [List.map_toArray, List.map_cons, List.map_nil]); first | done | rfl | (simp only [List.length_drop, List.length_take]; rfl)) ?_
        with_reducible refine (laws_eqAutomaton.calls kj24 t552 t553 t554 _ _ t555 t569 t570 t571 _ _ t572 true _ ?side1 ?side2 ?side3 ?side4 A69.out).mono ?_
        (case side1 => exact cP ((Kd.S_reads' HO_559003.out).2.2))
        (case side2 => exact (Kd.S_reads' HO_559003.out).2.1)
        (case side3 => exact cP ((Kd.S_reads' HO574.out).2.2))
        (case side4 => exact (Kd.S_reads' HO574.out).2.1)
        rintro e w81 ⟨rfl, hb⟩
        refine ⟨_, rfl, ?_⟩
        have n0_ := Aside0.mk (Kd.R_below (rP HO_6.out) hb)
        have n1_ := Aside0.mk (Kd.R_below (rP HO_10.out) hb)
        have n2_ := Aside0.mk (Kd.R_below (rP HO_552001.out) hb)
        have n3_ := Aside0.mk (Kd.S_below (sP HO_559003.out) hb)
        have n4_ := Aside0.mk (Kd.R_below (rP HO567.out) hb)
        have n5_ := Aside0.mk (Kd.S_below (sP HO574.out) hb)
        have n6_ := Aside0.mk (blkB BK529.out hb)
        have n7_ := Aside0.mk (blkB BK530.out hb)
        have n8_ := Aside0.mk (blkB BK551.out hb)
        have n9_ := Aside0.mk (blkB BK558.out hb)
        have n10_ := Aside0.mk (below_step (bW) hb)
        clear HO_6 HO_10 HO_552001 HO_559003 HO567 HO574 BK529 BK530 BK551 BK558 HB; have HO_6 := n0_; have HO_10 := n1_; have HO_552001 := n2_; have HO_559003 := n3_; have HO567 := n4_; have HO574 := n5_; have BK529 := n6_; have BK530 := n7_; have BK551 := n8_; have BK558 := n9_; have HB := n10_; clear n0_ n1_ n2_ n3_ n4_ n5_ n6_ n7_ n8_ n9_ n10_
        (try clear hb)
        (try clear hb2)
        (try clear hk)
        (try clear hi)
        refine hK.out _ _ ⟨(blk_cell BK558.out 0).trans rfl, (blk_cell BK558.out 1).trans rfl, (blk_cell BK558.out 2).trans rfl, (blk_cell BK558.out 3).trans rfl, (blk_cell BK530.out 0).trans rfl, (blk_cell BK530.out 1).trans rfl, (blk_cell BK530.out 2).trans rfl, (blk_cell BK530.out 3).trans rfl⟩ (fun hHeld => ?_)
        clear hK K
        refine norm_ (a' := ?_) ?_ ?_
        rotate_left
        ·show Act.put _ (some 62) _ = _
         simp only [Act.put, List.setIfInBounds_toArray, List.set_cons_zero, List.set_cons_succ, i64_w, i32_w]
         rfl
        refine pureS (i := 4) (N := some 63) (by kernel_rfl) ?_
        refine done_ (by kernel_rfl) ?_
        have hnb82 := NB551_529.out
        have hnc82 := NB529_551.out
        have hnb83 := NB551_530.out
        have hnc83 := NB530_551.out
        have hnb84 := NB551_558.out
        have hnc84 := NB558_551.out
        have hcz85_0 : w81.cell? ⟨gb551, 0, none⟩ = some (.int .i64 t547) := (blk_cell BK551.out 0).trans rfl
        have hcz85_1 : w81.cell? ⟨gb551, 1, none⟩ = some (.slice Ao45 t548.length co45) := (blk_cell BK551.out 1).trans rfl
        have hfz85_0 := blk_frozen BK551.out 0
        have hfz85_1 := blk_frozen BK551.out 1
        go_upto_region 21 with (first | ((with_reducible refine gate_callee (f := 33) rfl ?_); refine goesS (some 66) Tryd.func33 #[.agg #[.int .i64 t547, .slice Ao45 t548.length co45], .int .i64 1] ?_; (with_reducible refine (laws_markAlphabet.calls kj24 t547 (fun k_ => some k_ = (.slice Ao45 t548.length co45 : Value).ownBlock) (.slice Ao45 t548.length co45) t548 1 t576 t577 w _ ?side1 ?side2 A71.out).mono ?_); (case side1 => repeat (first | (with_reducible first | exact HB.out | apply below_alloc | apply pw_below_drewN | apply below_drew1 | refine below_set ?_ GE529.out | refine below_set ?_ GE530.out | refine below_set ?_ GE551.out | refine below_set ?_ GE558.out) | exact HB.out)); (case side2 => exact Kd.R_tight rfl HO_552001.out); rintro e w86 ⟨rfl, hy0, hb, hkp⟩; refine ⟨_, rfl, ?_⟩; have n0_ := Aside0.mk (Kd.R_mono (ok' := fun k_ => some k_ ≠ (v560 : Value).ownBlock ∧ some k_ ≠ (.slice Ao45 t548.length co45 : Value).ownBlock ∧ some k_ ≠ (.slice Ao76 t565.length co76 : Value).ownBlock) (Kd.R_keptB (HO_6.out) hkp (fun k_ hk_ hs_ => (hk_.1.2) hs_)) (fun k_ hk_ => ⟨hk_.1.1.1, hk_.1.1.2, hk_.1.2⟩)); have n1_ := Aside0.mk (Kd.R_mono (ok' := fun k_ => some k_ ≠ (v544 : Value).ownBlock ∧ some k_ ≠ (.slice Ao45 t548.length co45 : Value).ownBlock ∧ some k_ ≠ (.slice Ao76 t565.length co76 : Value).ownBlock) (Kd.R_keptB (HO_10.out) hkp (fun k_ hk_ hs_ => (hk_.1.2) hs_)) (fun k_ hk_ => ⟨hk_.1.1.1, hk_.1.1.2, hk_.1.2⟩)); have n2_ := Aside0.mk (Kd.R_reok rfl hy0 (fun k_ e_ => HO_552001.out.1 k_ e_)); have n3_ := Aside0.mk (Kd.S_mono (ok' := fun k_ => some k_ ≠ (v544 : Value).ownBlock ∧ some k_ ≠ (v560 : Value).ownBlock ∧ some k_ ≠ (.slice Ao45 t548.length co45 : Value).ownBlock ∧ some k_ ≠ (.slice Ao76 t565.length co76 : Value).ownBlock ∧ some k_ ≠ (.slice Ao80 t572.length co80 : Value).ownBlock) (Kd.S_keptB (HO_559003.out) hkp (fun k_ hk_ hs_ => (hk_.1.1.2.2) hs_)) (fun k_ hk_ => ⟨hk_.1.1.1.1, hk_.1.1.1.2.1, hk_.1.1.1.2.2, hk_.1.1.2, hk_.1.2⟩)); have n4_ := Aside0.mk (blk_kept (bP BK529.out) hkp (fun hs_ => (fun e_ => (Kd.R_ne HO_552001.out BK529.out (by decide)) e_) hs_)); have n5_ := Aside0.mk (blk_kept (bP BK530.out) hkp (fun hs_ => (fun e_ => (Kd.R_ne HO_552001.out BK530.out (by decide)) e_) hs_)); have n6_ := Aside0.mk (blk_kept (bP BK551.out) hkp (fun hs_ => (fun e_ => (Kd.R_ne HO_552001.out BK551.out (by decide)) e_) hs_)); have n7_ := Aside0.mk (blk_kept (bP BK558.out) hkp (fun hs_ => (fun e_ => (Kd.R_ne HO_552001.out BK558.out (by decide)) e_) hs_)); have n8_ := Aside0.mk (Kd.R_mono (ok' := fun k_ => some k_ ≠ (v544 : Value).ownBlock ∧ some k_ ≠ (v560 : Value).ownBlock ∧ some k_ ≠ (.slice Ao45 t548.length co45 : Value).ownBlock) (Kd.R_keptB (HO567.out) hkp (fun k_ hk_ hs_ => (hk_.2) hs_)) (fun k_ hk_ => ⟨hk_.1.1.1.2, hk_.1.1.2, hk_.1.2⟩)); have n9_ := Aside0.mk (Kd.S_mono (ok' := fun k_ => some k_ ≠ (v544 : Value).ownBlock ∧ some k_ ≠ (v560 : Value).ownBlock ∧ some k_ ≠ (.slice Ao45 t548.length co45 : Value).ownBlock ∧ some k_ ≠ (.slice Ao53 t555.length co53 : Value).ownBlock ∧ some k_ ≠ (.slice Ao76 t565.length co76 : Value).ownBlock) (Kd.S_keptB (HO574.out) hkp (fun k_ hk_ hs_ => (hk_.1.1.2) hs_)) (fun k_ hk_ => ⟨hk_.1.1.1.1.1.2, hk_.1.1.1.1.2, hk_.1.1.1.2, hk_.1.1.2, hk_.1.2⟩)); have n10_ := Aside0.mk (hb); clear HO_6 HO_10 HO_552001 HO_559003 BK529 BK530 BK551 BK558 HO567 HO574 HB; have HO_6 := n0_; have HO_10 := n1_; have HO_552001 := n2_; have HO_559003 := n3_; have BK529 := n4_; have BK530 := n5_; have BK551 := n6_; have BK558 := n7_; have HO567 := n8_; have HO574 := n9_; have HB := n10_; clear n0_ n1_ n2_ n3_ n4_ n5_ n6_ n7_ n8_ n9_ n10_; (try clear hb); (try clear hkp); (try clear hy0); have hnb87 := NB558_529.out; have hnc87 := NB529_558.out; have hnb88 := NB558_530.out; have hnc88 := NB530_558.out; obtain ⟨hcz89_0, hcz89_1, hcz89_2, hcz89_3⟩ := cells4 BK558.out; obtain ⟨hfz89_0, hfz89_1, hfz89_2, hfz89_3⟩ := frz4 BK558.out) | ((with_reducible refine gate_callee (f := 34) rfl ?_); refine goesS (some 69) Tryd.func34 #[.agg #[.int .i64 t552, .int .i64 t553, .int .i64 t554, .slice Ao53 t555.length co53], .int .i64 t576] ?_; (with_reducible refine (laws_markAutomaton.calls kj24 t552 t553 t554 (fun k_ => (((((some k_ ≠ (v544 : Value).ownBlock ∧ (some k_ ≠ (v560 : Value).ownBlock ∧ (some k_ ≠ (.slice Ao45 t548.length co45 : Value).ownBlock ∧ (some k_ ≠ (.slice Ao76 t565.length co76 : Value).ownBlock ∧ some k_ ≠ (.slice Ao80 t572.length co80 : Value).ownBlock)))) ∧ k_ ≠ gb529) ∧ k_ ≠ gb530) ∧ k_ ≠ gb551) ∧ k_ ≠ gb558)) (.slice Ao53 t555.length co53) t555 t576 t578 t579 w _ ?side1 ?side2 A72.out).mono ?_); (case side1 => repeat (first | (with_reducible first | exact HB.out | apply below_alloc | apply pw_below_drewN | apply below_drew1 | refine below_set ?_ GE529.out | refine below_set ?_ GE530.out | refine below_set ?_ GE551.out | refine below_set ?_ GE558.out) | exact HB.out)); (case side2 => exact (Kd.S_types (Kd.S_types (Kd.S_types (Kd.S_types HO_559003.out BK529.out (by decide)) BK530.out (by decide)) BK551.out (by decide)) BK558.out (by decide))); rintro e w90 ⟨rfl, hy0, hb, hkp⟩; refine ⟨_, rfl, ?_⟩; have n0_ := Aside0.mk (Kd.R_reok (ok := fun k_ => some k_ ≠ (v560 : Value).ownBlock ∧ some k_ ≠ (.slice Ao45 t548.length co45 : Value).ownBlock ∧ some k_ ≠ (.slice Ao76 t565.length co76 : Value).ownBlock) rfl (Kd.R_keptB (Kd.R_tight rfl (rP HO_6.out)) hkp (fun k_ hk_ hs_ => (hs_.1.1.1.1.1) hk_)) (fun k_ e_ => ⟨(HO_6.out.1 k_ e_).1, ⟨(HO_6.out.1 k_ e_).2.1, (HO_6.out.1 k_ e_).2.2⟩⟩)); have n1_ := Aside0.mk (Kd.R_reok (ok := fun k_ => some k_ ≠ (v544 : Value).ownBlock ∧ some k_ ≠ (.slice Ao45 t548.length co45 : Value).ownBlock ∧ some k_ ≠ (.slice Ao76 t565.length co76 : Value).ownBlock) rfl (Kd.R_keptB (Kd.R_tight rfl (rP HO_10.out)) hkp (fun k_ hk_ hs_ => (hs_.1.1.1.1.2.1) hk_)) (fun k_ e_ => ⟨(HO_10.out.1 k_ e_).1, ⟨(HO_10.out.1 k_ e_).2.1, (HO_10.out.1 k_ e_).2.2⟩⟩)); have n2_ := Aside0.mk (Kd.R_reok (ok := fun k_ => some k_ ≠ (v544 : Value).ownBlock ∧ some k_ ≠ (v560 : Value).ownBlock ∧ some k_ ≠ (.slice Ao76 t565.length co76 : Value).ownBlock) rfl (Kd.R_keptB (Kd.R_tight rfl (rP HO_552001.out)) hkp (fun k_ hk_ hs_ => (hs_.1.1.1.1.2.2.1) hk_)) (fun k_ e_ => ⟨(HO_552001.out.1 k_ e_).1.1, ⟨(HO_552001.out.1 k_ e_).1.2, (HO_552001.out.1 k_ e_).2⟩⟩)); have n3_ := Aside0.mk (Kd.S_mono (ok' := fun k_ => some k_ ≠ (v544 : Value).ownBlock ∧ some k_ ≠ (v560 : Value).ownBlock ∧ some k_ ≠ (.slice Ao45 t548.length co45 : Value).ownBlock ∧ some k_ ≠ (.slice Ao76 t565.length co76 : Value).ownBlock) hy0 (fun k_ h_ => ⟨h_.1.1.1.1.1, ⟨h_.1.1.1.1.2.1, ⟨h_.1.1.1.1.2.2.1, h_.1.1.1.1.2.2.2.1⟩⟩⟩)); have n4_ := Aside0.mk (blk_kept (bP BK529.out) hkp (fun hs_ => (hs_.1.1.1.2) rfl)); have n5_ := Aside0.mk (blk_kept (bP BK530.out) hkp (fun hs_ => (hs_.1.1.2) rfl)); have n6_ := Aside0.mk (blk_kept (bP BK551.out) hkp (fun hs_ => (hs_.1.2) rfl)); have n7_ := Aside0.mk (blk_kept (bP BK558.out) hkp (fun hs_ => (hs_.2) rfl)); have n8_ := Aside0.mk (Kd.R_reok (ok := fun k_ => some k_ ≠ (v544 : Value).ownBlock ∧ some k_ ≠ (v560 : Value).ownBlock ∧ some k_ ≠ (.slice Ao45 t548.length co45 : Value).ownBlock) rfl (Kd.R_keptB (Kd.R_tight rfl (rP HO567.out)) hkp (fun k_ hk_ hs_ => (hs_.1.1.1.1.2.2.2.1) hk_)) (fun k_ e_ => ⟨(HO567.out.1 k_ e_).1, ⟨(HO567.out.1 k_ e_).2.1, (HO567.out.1 k_ e_).2.2⟩⟩)); have n9_ := Aside0.mk (hb); clear HO_6 HO_10 HO_552001 HO_559003 BK529 BK530 BK551 BK558 HO567 HB HO574; have HO_6 := n0_; have HO_10 := n1_; have HO_552001 := n2_; have HO_559003 := n3_; have BK529 := n4_; have BK530 := n5_; have BK551 := n6_; have BK558 := n7_; have HO567 := n8_; have HB := n9_; clear n0_ n1_ n2_ n3_ n4_ n5_ n6_ n7_ n8_ n9_; (try clear hb); (try clear hkp); (try clear hy0)))
        (try simp only [Act.put, List.setIfInBounds_toArray, List.set_cons_zero, List.set_cons_succ])
        go_cut [82] (fun v82 wc => ∃ (kq : Nat) (x82_72 : Bool), v82 = .bool x82_72 ∧ Aside0 (laws_FnExactDiamondFault.j1 kq t543 t546 t559 x82_72 a0_0 l0_1 a1_0 a1_1 a1_2 l1_3 = some r) ∧ Aside0 (kq ≤ kj24) ∧ Aside0 (Kd.R (Kd.int .i64) 2 wc w.heap.size (fun k_ => some k_ ≠ (v560 : Value).ownBlock ∧ some k_ ≠ ((.slice Ao45 t548.length co45) : Value).ownBlock) v544 t543) ∧ Aside0 (Kd.R (Kd.int .i64) 2 wc w.heap.size (fun k_ => some k_ ≠ (v544 : Value).ownBlock ∧ some k_ ≠ ((.slice Ao45 t548.length co45) : Value).ownBlock) v560 t559) ∧ Aside0 (Kd.R (Kd.int .i64) 2 wc w.heap.size (fun k_ => some k_ ≠ (v544 : Value).ownBlock ∧ some k_ ≠ (v560 : Value).ownBlock) (.slice Ao45 t548.length co45) t577) ∧ Aside0 (Kd.S (Kd.slice 2 (Kd.int .i64)) 22 wc w.heap.size (fun k_ => some k_ ≠ (v544 : Value).ownBlock ∧ some k_ ≠ (v560 : Value).ownBlock ∧ some k_ ≠ ((.slice Ao45 t548.length co45) : Value).ownBlock) (.slice Ao53 t555.length co53) t579) ∧ Aside0 (wc.heap[gb529]? = some (.cells #[.int .i64 a0_0, (.slice A0_1 l0_1.length c0_1)] 24 (0, 0))) ∧ Aside0 (wc.heap[gb530]? = some (.cells #[.int .i64 a1_0, .int .i64 a1_1, .int .i64 a1_2, (.slice A1_3 l1_3.length c1_3)] 44 (0, 0))) ∧ Aside0 (wc.heap[gb551]? = some (.cells #[.int .i64 t547, (.slice Ao45 t548.length co45)] 29 (0, 0))) ∧ Aside0 (wc.heap[gb558]? = some (.cells #[.int .i64 t552, .int .i64 t553, .int .i64 t554, (.slice Ao53 t555.length co53)] 48 (0, 0))) ∧ Aside0 (Below w.heap.size w wc))
        case first =>
         have H := HC73.out
         clear HC73
         by_cases c91 : t578 < 0
         ·rw [if_pos c91] at H
          have c91b0 : decide (t578 < 0) = true := decide_eq_true c91
          clear c91
          (first | rw [c91b0] | (simp only [i64_w, i32_w]; rw [c91b0]) | skip)
          have H' := Aside0.mk H
          clear H
          go_wp2
          go_meet
          case rel => exact ⟨_, (true), (eW), H', ⟨by have := HJ24.out; first | omega | exact Nat.le_refl _⟩, ⟨by (with_reducible repeat (first | apply Kd.R_alloc | apply Kd.R_drewN | apply Kd.R_drew)); exact Kd.R_mono HO_6.out (fun _ hk => ⟨hk.1, hk.2.1⟩)⟩, ⟨by (with_reducible repeat (first | apply Kd.R_alloc | apply Kd.R_drewN | apply Kd.R_drew)); exact Kd.R_mono HO_10.out (fun _ hk => ⟨hk.1, hk.2.1⟩)⟩, ⟨by (with_reducible repeat (first | apply Kd.R_alloc | apply Kd.R_drewN | apply Kd.R_drew)); exact Kd.R_mono HO_552001.out (fun _ hk => ⟨hk.1, hk.2.1⟩)⟩, ⟨by (with_reducible repeat (first | apply Kd.S_alloc | apply Kd.S_drewN | apply Kd.S_drew)); exact Kd.S_mono HO_559003.out (fun _ hk => ⟨hk.1, ⟨hk.2.1, hk.2.2.1⟩⟩)⟩, ⟨(bP BK529.out)⟩, ⟨(bP BK530.out)⟩, ⟨(bP BK551.out)⟩, ⟨(bP BK558.out)⟩, ⟨bW⟩⟩
         ·rw [if_neg c91] at H
          have c91b0 : decide (t578 < 0) = false := decide_eq_false c91
          clear c91
          (first | rw [c91b0] | (simp only [i64_w, i32_w]; rw [c91b0]) | skip)
          replace H := Option.bind_eq_some_iff.mp H
          obtain ⟨t580, A920, H⟩ := H
          replace H : (if t580 = true then (laws_FnExactDiamondFault.j1 kj24 t543 t546 t559 (t562 != t546) a0_0 l0_1 a1_0 a1_1 a1_2 l1_3) else (laws_FnExactDiamondFault.j1 kj24 t543 t546 t559 true a0_0 l0_1 a1_0 a1_1 a1_2 l1_3)) = some r := H
          have A92 := Aside0.mk A920
          clear A920
          by_cases c93 : t580 = true
          ·subst c93
           have H1 : (laws_FnExactDiamondFault.j1 kj24 t543 t546 t559 (t562 != t546) a0_0 l0_1 a1_0 a1_1 a1_2 l1_3) = some r := by rw [if_pos rfl] at H; exact H
           clear H
           have H := H1
           clear H1
           have H' := Aside0.mk H
           clear H
           obtain ⟨Ao94, co94, eo94⟩ := Kd.R_slice HO_10.out
           subst eo94
           obtain ⟨Ao95, co95, eo95⟩ := Kd.R_slice HO_6.out
           subst eo95
           go_wp2_with (first | (go_at_call 32; (with_reducible refine (laws_eqInt64S.calls kj24 _ _ t559 _ _ t543 true _ ?side1 ?side2 ?side3 ?side4 A92.out).mono ?_); (case side1 => exact cP ((Kd.R_reads' HO_10.out).2.2)); (case side2 => exact (Kd.R_reads' HO_10.out).2.1); (case side3 => exact cP ((Kd.R_reads' HO_6.out).2.2)); (case side4 => exact (Kd.R_reads' HO_6.out).2.1); rintro e w' ⟨rfl, ⟨nd, rfl⟩⟩))
           go_meet
           case rel => exact ⟨_, ((t562 != t546)), (eW), H', ⟨by have := HJ24.out; first | omega | exact Nat.le_refl _⟩, ⟨by (with_reducible repeat (first | apply Kd.R_alloc | apply Kd.R_drewN | apply Kd.R_drew)); exact Kd.R_mono HO_6.out (fun _ hk => ⟨hk.1, hk.2.1⟩)⟩, ⟨by (with_reducible repeat (first | apply Kd.R_alloc | apply Kd.R_drewN | apply Kd.R_drew)); exact Kd.R_mono HO_10.out (fun _ hk => ⟨hk.1, hk.2.1⟩)⟩, ⟨by (with_reducible repeat (first | apply Kd.R_alloc | apply Kd.R_drewN | apply Kd.R_drew)); exact Kd.R_mono HO_552001.out (fun _ hk => ⟨hk.1, hk.2.1⟩)⟩, ⟨by (with_reducible repeat (first | apply Kd.S_alloc | apply Kd.S_drewN | apply Kd.S_drew)); exact Kd.S_mono HO_559003.out (fun _ hk => ⟨hk.1, ⟨hk.2.1, hk.2.2.1⟩⟩)⟩, ⟨(bP BK529.out)⟩, ⟨(bP BK530.out)⟩, ⟨(bP BK551.out)⟩, ⟨(bP BK558.out)⟩, ⟨bW⟩⟩
          ·replace c93 := Bool.eq_false_iff.mpr c93
           subst c93
           have H1 : (laws_FnExactDiamondFault.j1 kj24 t543 t546 t559 true a0_0 l0_1 a1_0 a1_1 a1_2 l1_3) = some r := by rw [if_neg (show ¬ (false = true) by decide)] at H; exact H
           clear H
           have H := H1
           clear H1
           have H' := Aside0.mk H
           clear H
           obtain ⟨Ao96, co96, eo96⟩ := Kd.R_slice HO_10.out
           subst eo96
           obtain ⟨Ao97, co97, eo97⟩ := Kd.R_slice HO_6.out
           subst eo97
           go_wp2_with (first | (go_at_call 32; (with_reducible refine (laws_eqInt64S.calls kj24 _ _ t559 _ _ t543 false _ ?side1 ?side2 ?side3 ?side4 A92.out).mono ?_); (case side1 => exact cP ((Kd.R_reads' HO_10.out).2.2)); (case side2 => exact (Kd.R_reads' HO_10.out).2.1); (case side3 => exact cP ((Kd.R_reads' HO_6.out).2.2)); (case side4 => exact (Kd.R_reads' HO_6.out).2.1); rintro e w' ⟨rfl, ⟨nd, rfl⟩⟩))
           go_meet
           case rel => exact ⟨_, (true), (eW), H', ⟨by have := HJ24.out; first | omega | exact Nat.le_refl _⟩, ⟨by (with_reducible repeat (first | apply Kd.R_alloc | apply Kd.R_drewN | apply Kd.R_drew)); exact Kd.R_mono HO_6.out (fun _ hk => ⟨hk.1, hk.2.1⟩)⟩, ⟨by (with_reducible repeat (first | apply Kd.R_alloc | apply Kd.R_drewN | apply Kd.R_drew)); exact Kd.R_mono HO_10.out (fun _ hk => ⟨hk.1, hk.2.1⟩)⟩, ⟨by (with_reducible repeat (first | apply Kd.R_alloc | apply Kd.R_drewN | apply Kd.R_drew)); exact Kd.R_mono HO_552001.out (fun _ hk => ⟨hk.1, hk.2.1⟩)⟩, ⟨by (with_reducible repeat (first | apply Kd.S_alloc | apply Kd.S_drewN | apply Kd.S_drew)); exact Kd.S_mono HO_559003.out (fun _ hk => ⟨hk.1, ⟨hk.2.1, hk.2.2.1⟩⟩)⟩, ⟨(bP BK529.out)⟩, ⟨(bP BK530.out)⟩, ⟨(bP BK551.out)⟩, ⟨(bP BK558.out)⟩, ⟨bW⟩⟩
        case rest =>
         clear HC73
         try clear c1
         try clear c2
         try clear p2
         try clear c3
         try clear c4
         try clear c4b0
         try clear c5
         try clear c6
         try clear c7
         try clear c8
         try clear c9
         try clear c11
         try clear c11b0
         try clear c12
         try clear c14
         try clear c15
         try clear c18
         try clear c25
         try clear c27
         try clear c28
         try clear c29
         try clear c30
         try clear c31
         try clear c32
         try clear c33
         try clear c34
         try clear c42
         try clear c43
         try clear c49
         try clear c50
         try clear c51
         try clear c59
         try clear c64
         try clear c67
         try clear c70
         try clear c82
         try clear c83
         try clear c84
         try clear c87
         try clear c88
         try clear c91
         try clear c91b0
         try clear c93
         try clear hcz15_0
         try clear hcz15_1
         try clear hcz17_0
         try clear hcz17_1
         try clear hcz17_2
         try clear hcz17_3
         try clear hcz29_0
         try clear hcz29_1
         try clear hcz31_0
         try clear hcz31_1
         try clear hcz31_2
         try clear hcz31_3
         try clear hcz39_0
         try clear hcz39_1
         try clear hcz44_0
         try clear hcz44_1
         try clear hcz46_0
         try clear hcz46_1
         try clear hcz46_2
         try clear hcz46_3
         try clear hcz52_0
         try clear hcz52_1
         try clear hcz52_2
         try clear hcz52_3
         try clear hcz55_0
         try clear hcz55_1
         try clear hcz56_0
         try clear hcz56_1
         try clear hcz56_2
         try clear hcz56_3
         try clear hcz85_0
         try clear hcz85_1
         try clear hcz89_0
         try clear hcz89_1
         try clear hcz89_2
         try clear hcz89_3
         try clear hcz8_0
         try clear hcz8_1
         try clear hfz15_0
         try clear hfz15_1
         try clear hfz17_0
         try clear hfz17_1
         try clear hfz17_2
         try clear hfz17_3
         try clear hfz29_0
         try clear hfz29_1
         try clear hfz31_0
         try clear hfz31_1
         try clear hfz31_2
         try clear hfz31_3
         try clear hfz39_0
         try clear hfz39_1
         try clear hfz44_0
         try clear hfz44_1
         try clear hfz46_0
         try clear hfz46_1
         try clear hfz46_2
         try clear hfz46_3
         try clear hfz52_0
         try clear hfz52_1
         try clear hfz52_2
         try clear hfz52_3
         try clear hfz55_0
         try clear hfz55_1
         try clear hfz56_0
         try clear hfz56_1
         try clear hfz56_2
         try clear hfz56_3
         try clear hfz85_0
         try clear hfz85_1
         try clear hfz89_0
         try clear hfz89_1
         try clear hfz89_2
         try clear hfz89_3
         try clear hfz8_0
         try clear hfz8_1
         try clear p2
         obtain ⟨kq, x82_72, rfl, HA, HJ72, HO_6, HO_10, HO_552001, HO_559003, BK529, BK530, BK551, BK558, HB⟩ := hcut
         have hl552001_72 := (Kd.R_reads' HO_552001.out).1
         rw [hl552001_72] at HO_552001
         (try simp only [hl552001_72])
         (try simp only [hl552001_72] at BK529)
         (try simp only [hl552001_72] at BK530)
         (try simp only [hl552001_72] at BK551)
         (try simp only [hl552001_72] at BK558)
         (try simp only [hl552001_72] at HO_6)
         (try simp only [hl552001_72] at HO_10)
         (try simp only [hl552001_72] at HO_559003)
         have hl559003_72 := (Kd.S_reads' HO_559003.out).1
         rw [hl559003_72] at HO_559003
         (try simp only [hl559003_72])
         (try simp only [hl559003_72] at BK529)
         (try simp only [hl559003_72] at BK530)
         (try simp only [hl559003_72] at BK551)
         (try simp only [hl559003_72] at BK558)
         (try simp only [hl559003_72] at HO_6)
         (try simp only [hl559003_72] at HO_10)
         (try simp only [hl559003_72] at HO_552001)
         cases kq with
         | zero => exact absurd HA.out (by simp [laws_FnExactDiamondFault.j1])
         | succ kj72 =>
          have H := HA.out
          clear HA
          simp only [laws_FnExactDiamondFault.j1] at H
          by_cases c98 : x82_72 = true
          ·subst c98
           have H1 : (some false) = some r := by rw [if_pos rfl] at H; exact H
           clear H
           have H := H1
           clear H1
           exact absurd (Option.some.inj H) (by rw [HTr_.out]; decide)
          ·replace c98 := Bool.eq_false_iff.mpr c98
           subst c98
           have H1 : ((laws_markInt64S.f kj72 t559 1).bind fun bt581 => ((laws_heldInt64S.f kj72 bt581.2 1).bind fun t583 => (if t583 < 0 then (some false) else (if t583 = bt581.1 then ((laws_toAlphabet.f kj72 a0_0 l0_1).bind fun bt584 => ((laws_toAutomaton.f kj72 a1_0 a1_1 a1_2 l1_3).bind fun bt588 => ((impl_DiamondFault.f kj72 bt584.1 bt584.2 bt588.1 bt588.2.1 bt588.2.2.1 bt588.2.2.2).bind fun bt594 => ((laws_eqInt64S.f kj72 bt594.1 t543).bind fun t598 => (if t598 = true then (laws_FnExactDiamondFault.j2 kj72 bt581.2 bt581.1 (bt594.2 != t546)) else (laws_FnExactDiamondFault.j2 kj72 bt581.2 bt581.1 true)))))) else (some false))))) = some r := by rw [if_neg (show ¬ (false = true) by decide)] at H; exact H
           clear H
           have H := H1
           clear H1
           replace H := Option.bind_eq_some_iff.mp H
           obtain ⟨⟨t581, t582⟩, A990, H⟩ := H
           replace H : ((laws_heldInt64S.f kj72 t582 1).bind fun t583 => (if t583 < 0 then (some false) else (if t583 = t581 then ((laws_toAlphabet.f kj72 a0_0 l0_1).bind fun bt584 => ((laws_toAutomaton.f kj72 a1_0 a1_1 a1_2 l1_3).bind fun bt588 => ((impl_DiamondFault.f kj72 bt584.1 bt584.2 bt588.1 bt588.2.1 bt588.2.2.1 bt588.2.2.2).bind fun bt594 => ((laws_eqInt64S.f kj72 bt594.1 t543).bind fun t598 => (if t598 = true then (laws_FnExactDiamondFault.j2 kj72 t582 t581 (bt594.2 != t546)) else (laws_FnExactDiamondFault.j2 kj72 t582 t581 true)))))) else (some false)))) = some r := H
           have A99 := Aside0.mk A990
           clear A990
           replace H := Option.bind_eq_some_iff.mp H
           obtain ⟨t583, A1000, H⟩ := H
           replace H : (if t583 < 0 then (some false) else (if t583 = t581 then ((laws_toAlphabet.f kj72 a0_0 l0_1).bind fun bt584 => ((laws_toAutomaton.f kj72 a1_0 a1_1 a1_2 l1_3).bind fun bt588 => ((impl_DiamondFault.f kj72 bt584.1 bt584.2 bt588.1 bt588.2.1 bt588.2.2.1 bt588.2.2.2).bind fun bt594 => ((laws_eqInt64S.f kj72 bt594.1 t543).bind fun t598 => (if t598 = true then (laws_FnExactDiamondFault.j2 kj72 t582 t581 (bt594.2 != t546)) else (laws_FnExactDiamondFault.j2 kj72 t582 t581 true)))))) else (some false))) = some r := H
           have A100 := Aside0.mk A1000
           clear A1000
           by_cases c101 : t583 < 0
           ·rw [if_pos c101] at H
            have c101b0 : decide (t583 < 0) = true := decide_eq_true c101
            clear c101
            exact absurd (Option.some.inj H) (by rw [HTr_.out]; decide)
           ·rw [if_neg c101] at H
            have c101b0 : decide (t583 < 0) = false := decide_eq_false c101
            clear c101
            by_cases c102 : t583 = t581
            ·rw [if_pos c102] at H
             have c102b0 : (t583 == t581) = true := beq_iff_eq.mpr c102
             have c102b1 : (t583 != t581) = false := bne_eq_false_iff_eq.mpr c102
             clear c102
             replace H := Option.bind_eq_some_iff.mp H
             obtain ⟨⟨t584, t585⟩, A1030, H⟩ := H
             replace H : ((laws_toAutomaton.f kj72 a1_0 a1_1 a1_2 l1_3).bind fun bt588 => ((impl_DiamondFault.f kj72 t584 t585 bt588.1 bt588.2.1 bt588.2.2.1 bt588.2.2.2).bind fun bt594 => ((laws_eqInt64S.f kj72 bt594.1 t543).bind fun t598 => (if t598 = true then (laws_FnExactDiamondFault.j2 kj72 t582 t581 (bt594.2 != t546)) else (laws_FnExactDiamondFault.j2 kj72 t582 t581 true))))) = some r := H
             have A103 := Aside0.mk A1030
             clear A1030
             replace H := Option.bind_eq_some_iff.mp H
             obtain ⟨⟨t588, t589, t590, t591⟩, A1040, H⟩ := H
             replace H : ((impl_DiamondFault.f kj72 t584 t585 t588 t589 t590 t591).bind fun bt594 => ((laws_eqInt64S.f kj72 bt594.1 t543).bind fun t598 => (if t598 = true then (laws_FnExactDiamondFault.j2 kj72 t582 t581 (bt594.2 != t546)) else (laws_FnExactDiamondFault.j2 kj72 t582 t581 true)))) = some r := H
             have A104 := Aside0.mk A1040
             clear A1040
             replace H := Option.bind_eq_some_iff.mp H
             obtain ⟨⟨t594, t597⟩, A1050, H⟩ := H
             replace H : ((laws_eqInt64S.f kj72 t594 t543).bind fun t598 => (if t598 = true then (laws_FnExactDiamondFault.j2 kj72 t582 t581 (t597 != t546)) else (laws_FnExactDiamondFault.j2 kj72 t582 t581 true))) = some r := H
             have A105 := Aside0.mk A1050
             clear A1050
             have HC106 := Aside0.mk H
             clear H
             obtain ⟨Ao107, co107, eo107⟩ := Kd.R_slice HO_10.out
             subst eo107
             try go_wp2_with (first | ((with_reducible refine gate_callee (f := 35) rfl ?_); refine goesS (some 85) Tryd.func35 #[.slice Ao107 t559.length co107, .int .i64 1] ?_; (with_reducible refine (laws_markInt64S.calls kj72 (fun k_ => some k_ = (.slice Ao107 t559.length co107 : Value).ownBlock) (.slice Ao107 t559.length co107) t559 1 t581 t582 w _ ?side1 ?side2 A99.out).mono ?_); (case side1 => repeat (first | (with_reducible first | exact HB.out | apply below_alloc | apply pw_below_drewN | apply below_drew1 | refine below_set ?_ GE529.out | refine below_set ?_ GE530.out | refine below_set ?_ GE551.out | refine below_set ?_ GE558.out) | exact HB.out)); (case side2 => exact Kd.R_tight rfl HO_10.out); rintro e w108 ⟨rfl, hy0, hb, hkp⟩; refine ⟨_, rfl, ?_⟩; have n0_ := Aside0.mk (Kd.R_mono (ok' := fun k_ => some k_ ≠ (.slice Ao107 t559.length co107 : Value).ownBlock ∧ some k_ ≠ (.slice Ao45 t577.length co45 : Value).ownBlock) (Kd.R_keptB (HO_6.out) hkp (fun k_ hk_ hs_ => (hk_.1) hs_)) (fun k_ hk_ => ⟨hk_.1.1, hk_.1.2⟩)); have n1_ := Aside0.mk (Kd.R_reok rfl hy0 (fun k_ e_ => HO_10.out.1 k_ e_)); have n2_ := Aside0.mk (Kd.R_mono (ok' := fun k_ => some k_ ≠ (v544 : Value).ownBlock ∧ some k_ ≠ (.slice Ao107 t559.length co107 : Value).ownBlock) (Kd.R_keptB (HO_552001.out) hkp (fun k_ hk_ hs_ => (hk_.2) hs_)) (fun k_ hk_ => ⟨hk_.1.1, hk_.1.2⟩)); have n3_ := Aside0.mk (Kd.S_mono (ok' := fun k_ => some k_ ≠ (v544 : Value).ownBlock ∧ some k_ ≠ (.slice Ao107 t559.length co107 : Value).ownBlock ∧ some k_ ≠ (.slice Ao45 t577.length co45 : Value).ownBlock) (Kd.S_keptB (HO_559003.out) hkp (fun k_ hk_ hs_ => (hk_.2.1) hs_)) (fun k_ hk_ => ⟨hk_.1.1, hk_.1.2.1, hk_.1.2.2⟩)); have n4_ := Aside0.mk (blk_kept (bP BK529.out) hkp (fun hs_ => (fun e_ => (Kd.R_ne HO_10.out BK529.out (by decide)) e_) hs_)); have n5_ := Aside0.mk (blk_kept (bP BK530.out) hkp (fun hs_ => (fun e_ => (Kd.R_ne HO_10.out BK530.out (by decide)) e_) hs_)); have n6_ := Aside0.mk (blk_kept (bP BK551.out) hkp (fun hs_ => (fun e_ => (Kd.R_ne HO_10.out BK551.out (by decide)) e_) hs_)); have n7_ := Aside0.mk (blk_kept (bP BK558.out) hkp (fun hs_ => (fun e_ => (Kd.R_ne HO_10.out BK558.out (by decide)) e_) hs_)); have n8_ := Aside0.mk (hb); clear HO_6 HO_10 HO_552001 HO_559003 BK529 BK530 BK551 BK558 HB; have HO_6 := n0_; have HO_10 := n1_; have HO_552001 := n2_; have HO_559003 := n3_; have BK529 := n4_; have BK530 := n5_; have BK551 := n6_; have BK558 := n7_; have HB := n8_; clear n0_ n1_ n2_ n3_ n4_ n5_ n6_ n7_ n8_; (try clear hb); (try clear hkp); (try clear hy0)) | ((with_reducible refine gate_callee (f := 36) rfl ?_); refine goesL_ (some 88) rfl rfl Tryd.func36 (by kernel_rfl) rfl #[.slice Ao107 t582.length co107, .int .i64 1] rfl (by (try simp only [List.map_toArray, List.map_cons, List.map_nil]); first | done | (rw [show t582.length = t559.length from (Kd.R_reads' HO_10.out).1.symm] <;> rfl) | rfl | (simp only [List.length_drop, List.length_take]; rfl)) ?_; (with_reducible refine (laws_heldInt64S.calls kj72 _ _ t582 1 t583 _ ?side1 ?side2 A100.out).mono ?_); (case side1 => exact cP ((Kd.R_reads' HO_10.out).2.2)); (case side2 => rw [show t582.length = t559.length from (Kd.R_reads' HO_10.out).1.symm]; exact (Kd.R_reads' HO_10.out).2.1); rintro e w' ⟨rfl, ⟨nd, rfl⟩⟩; refine ⟨_, rfl, ?_⟩))
             (first | (rw [drewN_self w108]; generalize hq_ : World.drewN w108 _ = w108; have n0_ : Aside0 (Kd.R (Kd.int .i64) 2 w108 w.heap.size (fun k_ => some k_ ≠ (.slice Ao45 t577.length co45 : Value).ownBlock ∧ some k_ ≠ (v544 : Value).ownBlock) (.slice Ao107 t559.length co107) t582) := ⟨by rw [← hq_]; exact (by (with_reducible repeat (first | apply Kd.R_alloc | apply Kd.R_drewN | apply Kd.R_drew)); exact Kd.R_mono HO_10.out (fun _ hk => ⟨hk.2, hk.1⟩))⟩; have n1_ : Aside0 (Kd.R (Kd.int .i64) 2 w108 w.heap.size (fun k_ => some k_ ≠ (.slice Ao107 t559.length co107 : Value).ownBlock ∧ some k_ ≠ (v544 : Value).ownBlock) (.slice Ao45 t577.length co45) t577) := ⟨by rw [← hq_]; exact (by (with_reducible repeat (first | apply Kd.R_alloc | apply Kd.R_drewN | apply Kd.R_drew)); exact Kd.R_mono HO_552001.out (fun _ hk => ⟨hk.2, hk.1⟩))⟩; have n2_ : Aside0 (Kd.S (Kd.slice 2 (Kd.int .i64)) 22 w108 w.heap.size (fun k_ => some k_ ≠ (.slice Ao107 t559.length co107 : Value).ownBlock ∧ some k_ ≠ (.slice Ao45 t577.length co45 : Value).ownBlock ∧ some k_ ≠ (v544 : Value).ownBlock) (.slice Ao53 t579.length co53) t579) := ⟨by rw [← hq_]; exact (by (with_reducible repeat (first | apply Kd.S_alloc | apply Kd.S_drewN | apply Kd.S_drew)); exact Kd.S_mono HO_559003.out (fun _ hk => ⟨hk.2.1, ⟨hk.2.2, hk.1⟩⟩))⟩; have n3_ : Aside0 (Kd.R (Kd.int .i64) 2 w108 w.heap.size (fun k_ => some k_ ≠ (.slice Ao107 t559.length co107 : Value).ownBlock ∧ some k_ ≠ (.slice Ao45 t577.length co45 : Value).ownBlock) v544 t543) := ⟨by rw [← hq_]; exact (rP HO_6.out)⟩; have n4_ : Aside0 (w108.heap[gb529]? = some (.cells #[.int .i64 a0_0, .slice A0_1 l0_1.length c0_1] 24 (0, 0))) := ⟨by rw [← hq_]; exact (bP BK529.out)⟩; have n5_ : Aside0 (w108.heap[gb530]? = some (.cells #[.int .i64 a1_0, .int .i64 a1_1, .int .i64 a1_2, .slice A1_3 l1_3.length c1_3] 44 (0, 0))) := ⟨by rw [← hq_]; exact (bP BK530.out)⟩; have n6_ : Aside0 (w108.heap[gb551]? = some (.cells #[.int .i64 t547, .slice Ao45 t577.length co45] 29 (0, 0))) := ⟨by rw [← hq_]; exact (bP BK551.out)⟩; have n7_ : Aside0 (w108.heap[gb558]? = some (.cells #[.int .i64 t552, .int .i64 t553, .int .i64 t554, .slice Ao53 t579.length co53] 48 (0, 0))) := ⟨by rw [← hq_]; exact (bP BK558.out)⟩; have n8_ : Aside0 (Below w.heap.size w w108) := ⟨by rw [← hq_]; exact (bW)⟩; clear HO_10 HO_552001 HO_559003 HO_6 BK529 BK530 BK551 BK558 HB hq_; have HO_10 := n0_; have HO_552001 := n1_; have HO_559003 := n2_; have HO_6 := n3_; have BK529 := n4_; have BK530 := n5_; have BK551 := n6_; have BK558 := n7_; have HB := n8_; clear n0_ n1_ n2_ n3_ n4_ n5_ n6_ n7_ n8_) | (have n0_ : Aside0 (Kd.R (Kd.int .i64) 2 w108 w.heap.size (fun k_ => some k_ ≠ (.slice Ao45 t577.length co45 : Value).ownBlock ∧ some k_ ≠ (v544 : Value).ownBlock) (.slice Ao107 t559.length co107) t582) := ⟨(by (with_reducible repeat (first | apply Kd.R_alloc | apply Kd.R_drewN | apply Kd.R_drew)); exact Kd.R_mono HO_10.out (fun _ hk => ⟨hk.2, hk.1⟩))⟩; have n1_ : Aside0 (Kd.R (Kd.int .i64) 2 w108 w.heap.size (fun k_ => some k_ ≠ (.slice Ao107 t559.length co107 : Value).ownBlock ∧ some k_ ≠ (v544 : Value).ownBlock) (.slice Ao45 t577.length co45) t577) := ⟨(by (with_reducible repeat (first | apply Kd.R_alloc | apply Kd.R_drewN | apply Kd.R_drew)); exact Kd.R_mono HO_552001.out (fun _ hk => ⟨hk.2, hk.1⟩))⟩; have n2_ : Aside0 (Kd.S (Kd.slice 2 (Kd.int .i64)) 22 w108 w.heap.size (fun k_ => some k_ ≠ (.slice Ao107 t559.length co107 : Value).ownBlock ∧ some k_ ≠ (.slice Ao45 t577.length co45 : Value).ownBlock ∧ some k_ ≠ (v544 : Value).ownBlock) (.slice Ao53 t579.length co53) t579) := ⟨(by (with_reducible repeat (first | apply Kd.S_alloc | apply Kd.S_drewN | apply Kd.S_drew)); exact Kd.S_mono HO_559003.out (fun _ hk => ⟨hk.2.1, ⟨hk.2.2, hk.1⟩⟩))⟩; have n3_ : Aside0 (Kd.R (Kd.int .i64) 2 w108 w.heap.size (fun k_ => some k_ ≠ (.slice Ao107 t559.length co107 : Value).ownBlock ∧ some k_ ≠ (.slice Ao45 t577.length co45 : Value).ownBlock) v544 t543) := ⟨(rP HO_6.out)⟩; have n4_ : Aside0 (w108.heap[gb529]? = some (.cells #[.int .i64 a0_0, .slice A0_1 l0_1.length c0_1] 24 (0, 0))) := ⟨(bP BK529.out)⟩; have n5_ : Aside0 (w108.heap[gb530]? = some (.cells #[.int .i64 a1_0, .int .i64 a1_1, .int .i64 a1_2, .slice A1_3 l1_3.length c1_3] 44 (0, 0))) := ⟨(bP BK530.out)⟩; have n6_ : Aside0 (w108.heap[gb551]? = some (.cells #[.int .i64 t547, .slice Ao45 t577.length co45] 29 (0, 0))) := ⟨(bP BK551.out)⟩; have n7_ : Aside0 (w108.heap[gb558]? = some (.cells #[.int .i64 t552, .int .i64 t553, .int .i64 t554, .slice Ao53 t579.length co53] 48 (0, 0))) := ⟨(bP BK558.out)⟩; have n8_ : Aside0 (Below w.heap.size w w108) := ⟨(bW)⟩; clear HO_10 HO_552001 HO_559003 HO_6 BK529 BK530 BK551 BK558 HB; have HO_10 := n0_; have HO_552001 := n1_; have HO_559003 := n2_; have HO_6 := n3_; have BK529 := n4_; have BK530 := n5_; have BK551 := n6_; have BK558 := n7_; have HB := n8_; clear n0_ n1_ n2_ n3_ n4_ n5_ n6_ n7_ n8_))
             have n0_ := Aside0.mk (Kd.R_drew HO_6.out)
             have n1_ := Aside0.mk (Kd.R_drew HO_10.out)
             have n2_ := Aside0.mk (Kd.R_drew HO_552001.out)
             have n3_ := Aside0.mk (Kd.S_drew HO_559003.out)
             have n4_ := Aside0.mk (blk_drew BK529.out)
             have n5_ := Aside0.mk (blk_drew BK530.out)
             have n6_ := Aside0.mk (blk_drew BK551.out)
             have n7_ := Aside0.mk (blk_drew BK558.out)
             have n8_ := Aside0.mk (below_drew1 HB.out)
             clear HO_6 HO_10 HO_552001 HO_559003 BK529 BK530 BK551 BK558 HB; have HO_6 := n0_; have HO_10 := n1_; have HO_552001 := n2_; have HO_559003 := n3_; have BK529 := n4_; have BK530 := n5_; have BK551 := n6_; have BK558 := n7_; have HB := n8_; clear n0_ n1_ n2_ n3_ n4_ n5_ n6_ n7_ n8_
             refine start_ (n := 10) (S := fun w' => w'.cell? ⟨gb529, 0, none⟩ = some (.int .i64 a0_0) ∧ w'.cell? ⟨gb529, 1, none⟩ = some (.slice A0_1 l0_1.length c0_1) ∧ w'.cell? ⟨gb530, 0, none⟩ = some (.int .i64 a1_0) ∧ w'.cell? ⟨gb530, 1, none⟩ = some (.int .i64 a1_1) ∧ w'.cell? ⟨gb530, 2, none⟩ = some (.int .i64 a1_2) ∧ w'.cell? ⟨gb530, 3, none⟩ = some (.slice A1_3 l1_3.length c1_3)) (ds := []) #[false, false, false, false, false, false, false, false, false, false] (by kernel_rfl) rfl rfl ⟨(blk_cell BK529.out 0).trans rfl, (blk_cell BK529.out 1).trans rfl, (blk_cell BK530.out 0).trans rfl, (blk_cell BK530.out 1).trans rfl, (blk_cell BK530.out 2).trans rfl, (blk_cell BK530.out 3).trans rfl⟩ (fun hHeld => ?_); refine with_tabW laws_FnExactDiamondFault.tab31 laws_FnExactDiamondFault.bits31 (fun HT_ HW_ => ?_)
             generalize w108.drew = w109 at HO_6 HO_10 HO_552001 HO_559003 BK529 BK530 BK551 BK558 HB hHeld ⊢
             refine takeS (i := 0) (N := some 95) (take_ofW HT_.out HW_.out (by kernel_rfl)) hHeld ?_
             refine takeS (i := 2) (N := some 97) (take_ofW HT_.out HW_.out (by kernel_rfl)) hHeld ?_
             refine one_ (i := 1) (N := some 96) #[true, true, true, false, false, false, false, false, false, false] rfl rfl (one_of HT_.out (by kernel_rfl)) (by decide) (fun K hK => ?_)
             refine goes_ Tryd.func15 (by kernel_rfl) rfl #[.agg #[.int .i64 a0_0, .slice A0_1 l0_1.length c0_1]] (by rfl) rfl rfl (by (try simp only [List.map_toArray, List.map_cons, List.map_nil]); first | done | rfl | (simp only [List.length_drop, List.length_take]; rfl)) ?_
             with_reducible refine (laws_toAlphabet.calls kj72 a0_0 _ _ l0_1 t584 t585 _ ?side1 ?side2 A103.out).mono ?_
             (case side1 => exact cP (Kd.C_below HR0_1.out HB.out))
             (case side2 => exact HC0_1.out)
             rintro e w110 ⟨v586, rfl, ho0, hb⟩
             refine ⟨_, rfl, ?_⟩
             have n0_ := Aside0.mk (Kd.R_elder' (rP HO_6.out) (Kd.R_base ho0) hb)
             have n1_ := Aside0.mk (Kd.R_elder' (rP HO_10.out) (Kd.R_base ho0) hb)
             have n2_ := Aside0.mk (Kd.R_elder' (rP HO_552001.out) (Kd.R_base ho0) hb)
             have n3_ := Aside0.mk (Kd.S_elder' (sP HO_559003.out) (Kd.R_base ho0) hb)
             have n4_ := Aside0.mk (Kd.R_lower (Kd.R_new' (Kd.R_new' (Kd.R_new' ho0 (Kd.R_lt (rP HO_6.out))) (Kd.R_lt (rP HO_10.out))) (Kd.R_lt (rP HO_552001.out))) (below_size (bW)))
             have n5_ := Aside0.mk (blkB BK529.out hb)
             have n6_ := Aside0.mk (blkB BK530.out hb)
             have n7_ := Aside0.mk (blkB BK551.out hb)
             have n8_ := Aside0.mk (blkB BK558.out hb)
             have n9_ := Aside0.mk (below_step (bW) hb)
             clear HO_6 HO_10 HO_552001 HO_559003 BK529 BK530 BK551 BK558 HB; have HO_6 := n0_; have HO_10 := n1_; have HO_552001 := n2_; have HO_559003 := n3_; have HO587 := n4_; have BK529 := n5_; have BK530 := n6_; have BK551 := n7_; have BK558 := n8_; have HB := n9_; clear n0_ n1_ n2_ n3_ n4_ n5_ n6_ n7_ n8_ n9_
             (try clear hb)
             (try clear hb2)
             (try clear hk)
             (try clear hi)
             (try clear ho0)
             refine hK.out _ _ ⟨(blk_cell BK529.out 0).trans rfl, (blk_cell BK529.out 1).trans rfl, (blk_cell BK530.out 0).trans rfl, (blk_cell BK530.out 1).trans rfl, (blk_cell BK530.out 2).trans rfl, (blk_cell BK530.out 3).trans rfl⟩ (fun hHeld => ?_)
             clear hK K
             refine norm_ (a' := ?_) ?_ ?_
             rotate_left
             ·show Act.put _ (some 96) _ = _
              simp only [Act.put, List.setIfInBounds_toArray, List.set_cons_zero, List.set_cons_succ, i64_w, i32_w]
              rfl
             refine one_ (i := 3) (N := some 98) #[true, true, true, true, false, false, false, false, false, false] rfl rfl (one_of HT_.out (by kernel_rfl)) (by decide) (fun K hK => ?_)
             refine goes_ Tryd.func27 (by kernel_rfl) rfl #[.agg #[.int .i64 a1_0, .int .i64 a1_1, .int .i64 a1_2, .slice A1_3 l1_3.length c1_3]] (by rfl) rfl rfl (by (try simp only [List.map_toArray, List.map_cons, List.map_nil]); first | done | rfl | (simp only [List.length_drop, List.length_take]; rfl)) ?_
             with_reducible refine (laws_toAutomaton.calls kj72 a1_0 a1_1 a1_2 _ _ l1_3 t588 t589 t590 t591 _ ?side1 ?side2 A104.out).mono ?_
             (case side1 => exact cP (Kd.C_below HR1_3.out HB.out))
             (case side2 => exact HC1_3.out)
             rintro e w111 ⟨v592, rfl, ho0, hb⟩
             refine ⟨_, rfl, ?_⟩
             have n0_ := Aside0.mk (Kd.R_below (rP HO_6.out) hb)
             have n1_ := Aside0.mk (Kd.R_below (rP HO_10.out) hb)
             have n2_ := Aside0.mk (Kd.R_below (rP HO_552001.out) hb)
             have n3_ := Aside0.mk (Kd.S_elder' (sP HO_559003.out) (Kd.S_base ho0) hb)
             have n4_ := Aside0.mk (Kd.R_below (rP HO587.out) hb)
             have n5_ := Aside0.mk (Kd.S_lower (Kd.S_new' (Kd.S_new' (Kd.S_new' (Kd.S_new' (Kd.S_new' ho0 (Kd.R_lt (rP HO_6.out))) (Kd.R_lt (rP HO_10.out))) (Kd.R_lt (rP HO_552001.out))) (Kd.S_lt (sP HO_559003.out))) (Kd.R_lt (rP HO587.out))) (below_size (bW)))
             have n6_ := Aside0.mk (blkB BK529.out hb)
             have n7_ := Aside0.mk (blkB BK530.out hb)
             have n8_ := Aside0.mk (blkB BK551.out hb)
             have n9_ := Aside0.mk (blkB BK558.out hb)
             have n10_ := Aside0.mk (below_step (bW) hb)
             clear HO_6 HO_10 HO_552001 HO_559003 HO587 BK529 BK530 BK551 BK558 HB; have HO_6 := n0_; have HO_10 := n1_; have HO_552001 := n2_; have HO_559003 := n3_; have HO587 := n4_; have HO593 := n5_; have BK529 := n6_; have BK530 := n7_; have BK551 := n8_; have BK558 := n9_; have HB := n10_; clear n0_ n1_ n2_ n3_ n4_ n5_ n6_ n7_ n8_ n9_ n10_
             (try clear hb)
             (try clear hb2)
             (try clear hk)
             (try clear hi)
             (try clear ho0)
             obtain ⟨Ao112, co112, eo112⟩ := Kd.R_slice HO587.out
             (first | subst eo112 | (injection eo112 with f1_ f2_ f3_; have f4_ := f1_.symm; have f5_ := f3_.symm; clear f1_ f2_ f3_; subst f4_; subst f5_))
             obtain ⟨Ao113, co113, eo113⟩ := Kd.S_slice HO593.out
             (first | subst eo113 | (injection eo113 with f1_ f2_ f3_; have f4_ := f1_.symm; have f5_ := f3_.symm; clear f1_ f2_ f3_; subst f4_; subst f5_))
             refine hK.out _ _ ⟨(blk_cell BK529.out 0).trans rfl, (blk_cell BK529.out 1).trans rfl, (blk_cell BK530.out 0).trans rfl, (blk_cell BK530.out 1).trans rfl, (blk_cell BK530.out 2).trans rfl, (blk_cell BK530.out 3).trans rfl⟩ (fun hHeld => ?_)
             clear hK K
             refine norm_ (a' := ?_) ?_ ?_
             rotate_left
             ·show Act.put _ (some 98) _ = _
              simp only [Act.put, List.setIfInBounds_toArray, List.set_cons_zero, List.set_cons_succ, i64_w, i32_w]
              rfl
             refine one_ (i := 4) (N := some 99) #[true, true, true, true, true, false, false, false, false, false] rfl rfl (one_of HT_.out (by kernel_rfl)) (by decide) (fun K hK => ?_)
             refine goes_ Tryd.func31 (by kernel_rfl) rfl #[.agg #[.int .i64 t584, .slice Ao112 t585.length co112], .agg #[.int .i64 t588, .int .i64 t589, .int .i64 t590, .slice Ao113 t591.length co113]] (by rfl) rfl rfl (by (try simp only [List.map_toArray, List.map_cons, List.map_nil]); first | done | rfl | (simp only [List.length_drop, List.length_take]; rfl)) ?_
             with_reducible refine (impl_DiamondFault.calls kj72 t584 _ _ t585 t588 t589 t590 (fun k_ => (((((((((True ∧ some k_ ≠ (v544 : Value).ownBlock) ∧ some k_ ≠ (.slice Ao107 t559.length co107 : Value).ownBlock) ∧ some k_ ≠ (.slice Ao45 t577.length co45 : Value).ownBlock) ∧ some k_ ≠ (.slice Ao53 t579.length co53 : Value).ownBlock) ∧ some k_ ≠ (.slice Ao112 t585.length co112 : Value).ownBlock) ∧ k_ ≠ gb529) ∧ k_ ≠ gb530) ∧ k_ ≠ gb551) ∧ k_ ≠ gb558)) _ _ t591 t594 t597 _ ?side1 ?side2 ?side3 A105.out (tabW HTab.out)).mono ?_
             (case side1 => exact cP ((Kd.R_reads' HO587.out).2.2))
             (case side2 => exact (Kd.R_reads' HO587.out).2.1)
             (case side3 => exact Kd.S_V (Kd.S_types (Kd.S_types (Kd.S_types (Kd.S_types (HO593.out) BK529.out (by decide)) BK530.out (by decide)) BK551.out (by decide)) BK558.out (by decide)))
             rintro e w114 ⟨v595, rfl, ho0, hb⟩
             refine ⟨_, rfl, ?_⟩
             have n0_ := Aside0.mk (Kd.R_elder' (rP HO_6.out) (Kd.R_base ho0) hb)
             have n1_ := Aside0.mk (Kd.R_elder' (rP HO_10.out) (Kd.R_base ho0) hb)
             have n2_ := Aside0.mk (Kd.R_elder' (rP HO_552001.out) (Kd.R_base ho0) hb)
             have n3_ := Aside0.mk (Kd.S_elder' (sP HO_559003.out) (Kd.R_base ho0) hb)
             have n4_ := Aside0.mk (Kd.R_elder' (rP HO587.out) (Kd.R_base ho0) hb)
             have n5_ := Aside0.mk (Kd.S_elder' (sP HO593.out) (Kd.R_base ho0) hb)
             have n6_ := Aside0.mk (Kd.R_lower (Kd.R_new' (Kd.R_new' (Kd.R_new' (Kd.R_new' (Kd.R_mono (ok' := fun k_ => True) ho0 (fun _ hk_ => trivial)) (Kd.R_lt (rP HO_6.out))) (Kd.R_lt (rP HO_10.out))) (Kd.R_lt (rP HO_552001.out))) (Kd.R_lt (rP HO587.out))) (below_size (bW)))
             have n7_ := Aside0.mk (blkB BK529.out hb)
             have n8_ := Aside0.mk (blkB BK530.out hb)
             have n9_ := Aside0.mk (blkB BK551.out hb)
             have n10_ := Aside0.mk (blkB BK558.out hb)
             have n11_ := Aside0.mk (below_step (bW) hb)
             clear HO_6 HO_10 HO_552001 HO_559003 HO587 HO593 BK529 BK530 BK551 BK558 HB; have HO_6 := n0_; have HO_10 := n1_; have HO_552001 := n2_; have HO_559003 := n3_; have HO587 := n4_; have HO593 := n5_; have HO596 := n6_; have BK529 := n7_; have BK530 := n8_; have BK551 := n9_; have BK558 := n10_; have HB := n11_; clear n0_ n1_ n2_ n3_ n4_ n5_ n6_ n7_ n8_ n9_ n10_ n11_
             (try clear hb)
             (try clear hb2)
             (try clear hk)
             (try clear hi)
             (try clear ho0)
             refine hK.out _ _ ⟨(blk_cell BK529.out 0).trans rfl, (blk_cell BK529.out 1).trans rfl, (blk_cell BK530.out 0).trans rfl, (blk_cell BK530.out 1).trans rfl, (blk_cell BK530.out 2).trans rfl, (blk_cell BK530.out 3).trans rfl⟩ (fun hHeld => ?_)
             clear hK K
             refine norm_ (a' := ?_) ?_ ?_
             rotate_left
             ·show Act.put _ (some 99) _ = _
              simp only [Act.put, List.setIfInBounds_toArray, List.set_cons_zero, List.set_cons_succ, i64_w, i32_w]
              rfl
             refine pureS (i := 5) (N := some 94) (any_of HT_.out (by kernel_rfl)) ?_
             refine pureS (i := 6) (N := some 100) (any_of HT_.out (by kernel_rfl)) ?_
             refine pureS (i := 7) (N := some 101) (any_of HT_.out (by kernel_rfl)) ?_
             refine pureS (i := 8) (N := some 15) (any_of HT_.out (by kernel_rfl)) ?_
             refine pureS (i := 9) (N := some 16) (any_of HT_.out (by kernel_rfl)) ?_
             refine done_ (done_of HT_.out (by kernel_rfl)) ?_
             go_upto_region 32 with (fail)
             go_cut [110] (fun v110 wc => ∃ (kq : Nat) (x110_105 : Bool), v110 = .bool x110_105 ∧ Aside0 (laws_FnExactDiamondFault.j2 kq t582 t581 x110_105 = some r) ∧ Aside0 (kq ≤ kj72) ∧ Aside0 (Kd.R (Kd.int .i64) 2 wc w.heap.size (fun k_ => some k_ ≠ ((.slice Ao45 t577.length co45) : Value).ownBlock) (.slice Ao107 t559.length co107) t582) ∧ Aside0 (Kd.R (Kd.int .i64) 2 wc w.heap.size (fun k_ => some k_ ≠ ((.slice Ao107 t559.length co107) : Value).ownBlock) (.slice Ao45 t577.length co45) t577) ∧ Aside0 (Kd.S (Kd.slice 2 (Kd.int .i64)) 22 wc w.heap.size (fun k_ => some k_ ≠ ((.slice Ao107 t559.length co107) : Value).ownBlock ∧ some k_ ≠ ((.slice Ao45 t577.length co45) : Value).ownBlock) (.slice Ao53 t579.length co53) t579) ∧ Aside0 (wc.heap[gb529]? = some (.cells #[.int .i64 a0_0, (.slice A0_1 l0_1.length c0_1)] 24 (0, 0))) ∧ Aside0 (wc.heap[gb530]? = some (.cells #[.int .i64 a1_0, .int .i64 a1_1, .int .i64 a1_2, (.slice A1_3 l1_3.length c1_3)] 44 (0, 0))) ∧ Aside0 (wc.heap[gb551]? = some (.cells #[.int .i64 t547, (.slice Ao45 t577.length co45)] 29 (0, 0))) ∧ Aside0 (wc.heap[gb558]? = some (.cells #[.int .i64 t552, .int .i64 t553, .int .i64 t554, (.slice Ao53 t579.length co53)] 48 (0, 0))) ∧ Aside0 (Below w.heap.size w wc))
             case first =>
              have H := HC106.out
              clear HC106
              replace H := Option.bind_eq_some_iff.mp H
              obtain ⟨t598, A1150, H⟩ := H
              replace H : (if t598 = true then (laws_FnExactDiamondFault.j2 kj72 t582 t581 (t597 != t546)) else (laws_FnExactDiamondFault.j2 kj72 t582 t581 true)) = some r := H
              have A115 := Aside0.mk A1150
              clear A1150
              by_cases c116 : t598 = true
              ·subst c116
               have H1 : (laws_FnExactDiamondFault.j2 kj72 t582 t581 (t597 != t546)) = some r := by rw [if_pos rfl] at H; exact H
               clear H
               have H := H1
               clear H1
               have H' := Aside0.mk H
               clear H
               obtain ⟨Ao117, co117, eo117⟩ := Kd.R_slice HO596.out
               subst eo117
               obtain ⟨Ao118, co118, eo118⟩ := Kd.R_slice HO_6.out
               subst eo118
               go_wp2_with (first | ((with_reducible refine gate_callee (f := 32) rfl ?_); refine goesS (some 104) Tryd.func32 #[.slice Ao117 t594.length co117, .slice Ao118 t543.length co118] ?_; (with_reducible refine (laws_eqInt64S.calls kj72 _ _ t594 _ _ t543 true _ ?side1 ?side2 ?side3 ?side4 A115.out).mono ?_); (case side1 => exact cP ((Kd.R_reads' HO596.out).2.2)); (case side2 => exact (Kd.R_reads' HO596.out).2.1); (case side3 => exact cP ((Kd.R_reads' HO_6.out).2.2)); (case side4 => exact (Kd.R_reads' HO_6.out).2.1); rintro e w' ⟨rfl, ⟨nd, rfl⟩⟩; refine ⟨_, rfl, ?_⟩))
               go_meet
               case rel => exact ⟨_, ((t597 != t546)), (eW), H', ⟨by have := HJ24.out; have := HJ72.out; first | omega | exact Nat.le_refl _⟩, ⟨by (try simp only [hl552001_72]); (try simp only [hl559003_72]); (with_reducible repeat (first | apply Kd.R_alloc | apply Kd.R_drewN | apply Kd.R_drew)); exact Kd.R_mono HO_10.out (fun _ hk => hk.1.1.1)⟩, ⟨by (try simp only [hl552001_72]); (try simp only [hl559003_72]); (with_reducible repeat (first | apply Kd.R_alloc | apply Kd.R_drewN | apply Kd.R_drew)); exact Kd.R_mono HO_552001.out (fun _ hk => hk.1.1.1)⟩, ⟨by (try simp only [hl552001_72]); (try simp only [hl559003_72]); (with_reducible repeat (first | apply Kd.S_alloc | apply Kd.S_drewN | apply Kd.S_drew)); exact Kd.S_mono HO_559003.out (fun _ hk => ⟨hk.1.1.1.1, hk.1.1.1.2.1⟩)⟩, ⟨by (try simp only [hl552001_72]); (try simp only [hl559003_72]); exact bP BK529.out⟩, ⟨by (try simp only [hl552001_72]); (try simp only [hl559003_72]); exact bP BK530.out⟩, ⟨by (try simp only [hl552001_72]); (try simp only [hl559003_72]); exact bP BK551.out⟩, ⟨by (try simp only [hl552001_72]); (try simp only [hl559003_72]); exact bP BK558.out⟩, ⟨bW⟩⟩
              ·replace c116 := Bool.eq_false_iff.mpr c116
               subst c116
               have H1 : (laws_FnExactDiamondFault.j2 kj72 t582 t581 true) = some r := by rw [if_neg (show ¬ (false = true) by decide)] at H; exact H
               clear H
               have H := H1
               clear H1
               have H' := Aside0.mk H
               clear H
               obtain ⟨Ao119, co119, eo119⟩ := Kd.R_slice HO596.out
               subst eo119
               obtain ⟨Ao120, co120, eo120⟩ := Kd.R_slice HO_6.out
               subst eo120
               go_wp2_with (first | ((with_reducible refine gate_callee (f := 32) rfl ?_); refine goesS (some 104) Tryd.func32 #[.slice Ao119 t594.length co119, .slice Ao120 t543.length co120] ?_; (with_reducible refine (laws_eqInt64S.calls kj72 _ _ t594 _ _ t543 false _ ?side1 ?side2 ?side3 ?side4 A115.out).mono ?_); (case side1 => exact cP ((Kd.R_reads' HO596.out).2.2)); (case side2 => exact (Kd.R_reads' HO596.out).2.1); (case side3 => exact cP ((Kd.R_reads' HO_6.out).2.2)); (case side4 => exact (Kd.R_reads' HO_6.out).2.1); rintro e w' ⟨rfl, ⟨nd, rfl⟩⟩; refine ⟨_, rfl, ?_⟩))
               go_meet
               case rel => exact ⟨_, (true), (eW), H', ⟨by have := HJ24.out; have := HJ72.out; first | omega | exact Nat.le_refl _⟩, ⟨by (try simp only [hl552001_72]); (try simp only [hl559003_72]); (with_reducible repeat (first | apply Kd.R_alloc | apply Kd.R_drewN | apply Kd.R_drew)); exact Kd.R_mono HO_10.out (fun _ hk => hk.1.1.1)⟩, ⟨by (try simp only [hl552001_72]); (try simp only [hl559003_72]); (with_reducible repeat (first | apply Kd.R_alloc | apply Kd.R_drewN | apply Kd.R_drew)); exact Kd.R_mono HO_552001.out (fun _ hk => hk.1.1.1)⟩, ⟨by (try simp only [hl552001_72]); (try simp only [hl559003_72]); (with_reducible repeat (first | apply Kd.S_alloc | apply Kd.S_drewN | apply Kd.S_drew)); exact Kd.S_mono HO_559003.out (fun _ hk => ⟨hk.1.1.1.1, hk.1.1.1.2.1⟩)⟩, ⟨by (try simp only [hl552001_72]); (try simp only [hl559003_72]); exact bP BK529.out⟩, ⟨by (try simp only [hl552001_72]); (try simp only [hl559003_72]); exact bP BK530.out⟩, ⟨by (try simp only [hl552001_72]); (try simp only [hl559003_72]); exact bP BK551.out⟩, ⟨by (try simp only [hl552001_72]); (try simp only [hl559003_72]); exact bP BK558.out⟩, ⟨bW⟩⟩
             case rest =>
              clear HC106
              try clear c1
              try clear c2
              try clear p2
              try clear c3
              try clear c4
              try clear c4b0
              try clear c5
              try clear c6
              try clear c7
              try clear c8
              try clear c9
              try clear c10
              try clear c11
              try clear c11b0
              try clear c12
              try clear c14
              try clear c15
              try clear c18
              try clear c25
              try clear c27
              try clear c28
              try clear c29
              try clear c30
              try clear c31
              try clear c32
              try clear c33
              try clear c34
              try clear c35
              try clear c36
              try clear c42
              try clear c43
              try clear c49
              try clear c50
              try clear c51
              try clear c59
              try clear c64
              try clear c67
              try clear c70
              try clear c82
              try clear c83
              try clear c84
              try clear c87
              try clear c88
              try clear c91
              try clear c91b0
              try clear c93
              try clear c98
              try clear c101
              try clear c101b0
              try clear c102
              try clear c102b0
              try clear c102b1
              try clear c116
              try clear hcz15_0
              try clear hcz15_1
              try clear hcz17_0
              try clear hcz17_1
              try clear hcz17_2
              try clear hcz17_3
              try clear hcz29_0
              try clear hcz29_1
              try clear hcz31_0
              try clear hcz31_1
              try clear hcz31_2
              try clear hcz31_3
              try clear hcz39_0
              try clear hcz39_1
              try clear hcz44_0
              try clear hcz44_1
              try clear hcz46_0
              try clear hcz46_1
              try clear hcz46_2
              try clear hcz46_3
              try clear hcz52_0
              try clear hcz52_1
              try clear hcz52_2
              try clear hcz52_3
              try clear hcz55_0
              try clear hcz55_1
              try clear hcz56_0
              try clear hcz56_1
              try clear hcz56_2
              try clear hcz56_3
              try clear hcz85_0
              try clear hcz85_1
              try clear hcz89_0
              try clear hcz89_1
              try clear hcz89_2
              try clear hcz89_3
              try clear hcz8_0
              try clear hcz8_1
              try clear hfz15_0
              try clear hfz15_1
              try clear hfz17_0
              try clear hfz17_1
              try clear hfz17_2
              try clear hfz17_3
              try clear hfz29_0
              try clear hfz29_1
              try clear hfz31_0
              try clear hfz31_1
              try clear hfz31_2
              try clear hfz31_3
              try clear hfz39_0
              try clear hfz39_1
              try clear hfz44_0
              try clear hfz44_1
              try clear hfz46_0
              try clear hfz46_1
              try clear hfz46_2
              try clear hfz46_3
              try clear hfz52_0
              try clear hfz52_1
              try clear hfz52_2
              try clear hfz52_3
              try clear hfz55_0
              try clear hfz55_1
              try clear hfz56_0
              try clear hfz56_1
              try clear hfz56_2
              try clear hfz56_3
              try clear hfz85_0
              try clear hfz85_1
              try clear hfz89_0
              try clear hfz89_1
              try clear hfz89_2
              try clear hfz89_3
              try clear hfz8_0
              try clear hfz8_1
              try clear p2
              obtain ⟨kq, x110_105, rfl, HA, HJ105, HO_10, HO_552001, HO_559003, BK529, BK530, BK551, BK558, HB⟩ := hcut
              have hl10_105 := (Kd.R_reads' HO_10.out).1
              rw [hl10_105] at HO_10
              (try simp only [hl10_105])
              (try simp only [hl10_105] at BK529)
              (try simp only [hl10_105] at BK530)
              (try simp only [hl10_105] at BK551)
              (try simp only [hl10_105] at BK558)
              (try simp only [hl10_105] at HO_552001)
              (try simp only [hl10_105] at HO_559003)
              cases kq with
              | zero => exact absurd HA.out (by simp [laws_FnExactDiamondFault.j2])
              | succ kj105 =>
               have H := HA.out
               clear HA
               simp only [laws_FnExactDiamondFault.j2] at H
               by_cases c121 : x110_105 = true
               ·subst c121
                have H1 : (some false) = some r := by rw [if_pos rfl] at H; exact H
                clear H
                have H := H1
                clear H1
                exact absurd (Option.some.inj H) (by rw [HTr_.out]; decide)
               ·replace c121 := Bool.eq_false_iff.mpr c121
                subst c121
                have H1 : ((laws_heldInt64S.f kj105 t582 1).bind fun t599 => (if t599 < 0 then (some false) else (if t599 = t581 then (some true) else (some false)))) = some r := by rw [if_neg (show ¬ (false = true) by decide)] at H; exact H
                clear H
                have H := H1
                clear H1
                replace H := Option.bind_eq_some_iff.mp H
                obtain ⟨t599, A1220, H⟩ := H
                replace H : (if t599 < 0 then (some false) else (if t599 = t581 then (some true) else (some false))) = some r := H
                have A122 := Aside0.mk A1220
                clear A1220
                by_cases c123 : t599 < 0
                ·rw [if_pos c123] at H
                 have c123b0 : decide (t599 < 0) = true := decide_eq_true c123
                 clear c123
                 exact absurd (Option.some.inj H) (by rw [HTr_.out]; decide)
                ·rw [if_neg c123] at H
                 have c123b0 : decide (t599 < 0) = false := decide_eq_false c123
                 clear c123
                 by_cases c124 : t599 = t581
                 ·rw [if_pos c124] at H
                  have c124b0 : (t599 == t581) = true := beq_iff_eq.mpr c124
                  have c124b1 : (t599 != t581) = false := bne_eq_false_iff_eq.mpr c124
                  clear c124
                  obtain rfl := Option.some.inj H
                  go_wp2_with (first | ((with_reducible refine gate_callee (f := 36) rfl ?_); refine goesS (some 113) Tryd.func36 #[.slice Ao107 t582.length co107, .int .i64 1] ?_; (with_reducible refine (laws_heldInt64S.calls kj105 _ _ t582 1 t599 _ ?side1 ?side2 A122.out).mono ?_); (case side1 => exact cP ((Kd.R_reads' HO_10.out).2.2)); (case side2 => exact (Kd.R_reads' HO_10.out).2.1); rintro e w' ⟨rfl, ⟨nd, rfl⟩⟩; refine ⟨_, rfl, ?_⟩))
                  go_ret
                  exact ⟨eW, bW⟩
                 ·rw [if_neg c124] at H
                  have c124b0 : (t599 == t581) = false := beq_eq_false_iff_ne.mpr c124
                  have c124b1 : (t599 != t581) = true := bne_iff_ne.mpr c124
                  exact absurd (Option.some.inj H) (by rw [HTr_.out]; decide)
            ·rw [if_neg c102] at H
             have c102b0 : (t583 == t581) = false := beq_eq_false_iff_ne.mpr c102
             have c102b1 : (t583 != t581) = true := bne_iff_ne.mpr c102
             exact absurd (Option.some.inj H) (by rw [HTr_.out]; decide)
       ·replace c70 := Bool.eq_false_iff.mpr c70
        subst c70
        have H1 : (some false) = some r := by rw [if_neg (show ¬ (false = true) by decide)] at H; exact H
        clear H
        have H := H1
        clear H1
        exact absurd (Option.some.inj H) (by rw [HTr_.out]; decide)
      ·replace c67 := Bool.eq_false_iff.mpr c67
       subst c67
       have H1 : (some false) = some r := by rw [if_neg (show ¬ (false = true) by decide)] at H; exact H
       clear H
       have H := H1
       clear H1
       exact absurd (Option.some.inj H) (by rw [HTr_.out]; decide)
end Go.Proofs.YthbaocejgjpfoaaDoor.P
end M0
