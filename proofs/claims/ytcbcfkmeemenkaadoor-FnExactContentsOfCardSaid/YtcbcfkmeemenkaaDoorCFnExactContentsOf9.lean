import Derived.ArgAppend
import Derived.Below
import Derived.BigQuiet
import Derived.ChangeSame
import Derived.ChangeShapes
import Derived.Deep.AppendLies
import Derived.Deep.CutBlock
import Derived.Deep.DeepCutAuto
import Derived.Deep.Draws
import Derived.Deep.LoopGhost
import Derived.Deep.OwnRows
import Derived.Deep.QuietTactic
import Derived.Deep.RegionHeld3
import Derived.Deep.Slices
import Derived.Deep.Strs
import Derived.KernelRfl
import Derived.Laws.BitsLemmas
import Derived.Laws.BytesArg
import Derived.Laws.IdiomCopy
import Derived.Laws.MakeOwn
import Derived.Laws.OwnMore
import Derived.Laws.Rows
import Derived.Laws.Slices
import Derived.Laws.StructEq
import Derived.Lib.AppendStr
import Derived.Lib.ConvBytes
import Derived.Lib.SliceRun
import Derived.Lib.SmallJoins
import Derived.Maps.AppendAt
import Derived.OrdersHeld
import Derived.OwnWalk
import Derived.RowKit
import Derived.RowKit3
import Derived.Shelf.Abstract
import Derived.Shelf.SlicesG.CompactI
import Derived.Shelf.SortM.Plain
import Derived.Shelf.SortM.SortNone
import Derived.Shelf.Spec.TrailingZeros
import Derived.Sort.Grow
import Derived.Tactics
import Derived.Test.YtcbcfkmeemenkaaDoorChecked
import Derived.Test.YtcbcfkmeemenkaaDoorProg
import Derived.WalkKit
import Derived.WideLaws
import Derived.Test.YtcbcfkmeemenkaaDoorCFnExactContentsOf0
import Derived.Test.YtcbcfkmeemenkaaDoorCFnExactContentsOf1
import Derived.Test.YtcbcfkmeemenkaaDoorCFnExactContentsOf2
import Derived.Test.YtcbcfkmeemenkaaDoorCFnExactContentsOf4
import Derived.Test.YtcbcfkmeemenkaaDoorCFnExactContentsOf8
section M0
namespace Go.Proofs.YtcbcfkmeemenkaaDoor.P
open Go.RowKit Go.Proofs.YtcbcfkmeemenkaaDoor.Sh Go.Proofs.YtcbcfkmeemenkaaDoorW.PrintWords Go.Proofs.YtcbcfkmeemenkaaDoorW.PrintLast Go.Proofs.YtcbcfkmeemenkaaDoorW.PrintMore
attribute [local go_sem] max2_int min2_int max_two min_two max_three min_three max_four min_four   -- for this text's walks alone
set_option linter.unusedVariables false
set_option linter.unusedSimpArgs false
/-! ### laws_FnExactContentsOf: function 3 -/
mutual
def laws_FnExactContentsOf.j0 : Nat → List (S52) → List Int → Int → List (S50) → List Int → Int → Bool → Int → List Int → Int → List Int → Option (Bool)
 | 0, _, _, _, _, _, _, _, _, _, _, _ => none
 | k + 1, x1, x6, x7, x9, x10, x11, x53, x354000, x354001, x372000, x372001 => if x53 = true then (some false) else ((laws_toAlphabet.f k x354000 x354001).bind fun bt380 => ((laws_eqAlphabet.f k x372000 x372001 bt380.1 bt380.2).bind fun t384 => (if t384 = true then ((laws_toTermS.f k x1).bind fun t385 => ((laws_eqTermS.f k x9 t385).bind fun t388 => (if t388 = true then ((laws_markAlphabet.f k x372000 x372001 1).bind fun bt389 => ((laws_markTermS.f k x9 bt389.1).bind fun bt391 => (if bt391.1 < 0 then (laws_FnExactContentsOf.j1 k x1 x6 x7 x10 true x354000 x354001) else ((laws_eqInt64S.f k x10 x6).bind fun t393 => (if t393 = true then (laws_FnExactContentsOf.j1 k x1 x6 x7 x10 (x11 != x7) x354000 x354001) else (laws_FnExactContentsOf.j1 k x1 x6 x7 x10 true x354000 x354001)))))) else (some false)))) else (some false))))
def laws_FnExactContentsOf.j1 : Nat → List (S52) → List Int → Int → List Int → Bool → Int → List Int → Option (Bool)
 | 0, _, _, _, _, _, _, _ => none
 | k + 1, x1, x6, x7, x10, x82, x354000, x354001 => if x82 = true then (some false) else ((laws_markInt64S.f k x10 1).bind fun bt394 => ((laws_heldInt64S.f k bt394.2 1).bind fun t396 => (if t396 < 0 then (some false) else (if t396 = bt394.1 then ((laws_toAlphabet.f k x354000 x354001).bind fun bt397 => ((laws_toTermS.f k x1).bind fun t401 => ((impl_ContentsOf.f k bt397.1 bt397.2 t401).bind fun bt404 => ((laws_eqInt64S.f k bt404.1 x6).bind fun t408 => (if t408 = true then (laws_FnExactContentsOf.j2 k bt394.2 bt394.1 (bt404.2 != x7)) else (laws_FnExactContentsOf.j2 k bt394.2 bt394.1 true)))))) else (some false)))))
def laws_FnExactContentsOf.j2 : Nat → List Int → Int → Bool → Option (Bool)
 | 0, _, _, _ => none
 | k + 1, x10, x13, x110 => if x110 = true then (some false) else ((laws_heldInt64S.f k x10 1).bind fun t409 => (if t409 < 0 then (some false) else (if t409 = x13 then (some true) else (some false))))
end
def laws_FnExactContentsOf.f (k : Nat) (a0_0 : Int) (l0_1 : List Int) (l1 : List (S52)) : Option (Bool) := (laws_szAlphabet.f a0_0 l0_1 1048576).bind fun t354 => (if t354 < 0 then (some true) else ((laws_szTermS.f l1 t354).bind fun t355 => (if t355 < 0 then (some true) else ((laws_toAlphabet.f k a0_0 l0_1).bind fun bt356 => ((laws_toTermS.f k l1).bind fun t360 => ((spec_ContentsOf.f k bt356.1 bt356.2 t360).bind fun bt363 => ((laws_toAlphabet.f k a0_0 l0_1).bind fun bt367 => ((laws_toTermS.f k l1).bind fun t372 => ((impl_ContentsOf.f k bt367.1 bt367.2 t372).bind fun bt375 => ((laws_eqInt64S.f k bt375.1 bt363.1).bind fun t379 => (if t379 = true then (laws_FnExactContentsOf.j0 k l1 bt363.1 bt363.2 t372 bt375.1 bt375.2 (bt375.2 != bt363.2) a0_0 l0_1 bt367.1 bt367.2) else (laws_FnExactContentsOf.j0 k l1 bt363.1 bt363.2 t372 bt375.1 bt375.2 true a0_0 l0_1 bt367.1 bt367.2))))))))))))
set_option maxHeartbeats 8000000 in
set_option maxRecDepth 100000 in
theorem laws_FnExactContentsOf.calls (k : Nat) (a0_0 : Int) (A0_1 : Option Addr) (c0_1 : Nat) (l0_1 : List Int) (A1 : Option Addr) (c1 : Nat) (l1 : List (S52)) (r : Bool) (w : World) (hr0_1 : Kd.C (Kd.int .i64) w A0_1 l0_1.length l0_1) (hc0_1 : l0_1.length ≤ c0_1) (hr1 : Kd.C k52 w A1 l1.length l1) (hc1 : l1.length ≤ c1) (h : laws_FnExactContentsOf.f k a0_0 l0_1 l1 = some r) (hT_ : r = true) (hTab : Tab w) :
  Calls Tryd.prog 3 #[.agg #[.int .i64 a0_0, .slice A0_1 l0_1.length c0_1], .slice A1 l1.length c1] w fun e w' => e = .returned (.bool r) ∧ Below w.heap.size w w' := by
 have HTab := Aside0.mk hTab
 clear hTab
 have HTr_ := Aside0.mk hT_
 clear hT_
 have hu24 := Tryd.underlying24
 have hu30 := Tryd.underlying30
 have HR0_1 := Aside0.mk hr0_1
 have HC0_1 := Aside0.mk hc0_1
 clear hr0_1 hc0_1
 have HR1 := Aside0.mk hr1
 have HC1 := Aside0.mk hc1
 clear hr1 hc1
 have HB := Aside0.mk (Below.refl w.heap.size w)
 have H : ((laws_szAlphabet.f a0_0 l0_1 1048576).bind fun t354 => (if t354 < 0 then (some true) else ((laws_szTermS.f l1 t354).bind fun t355 => (if t355 < 0 then (some true) else ((laws_toAlphabet.f k a0_0 l0_1).bind fun bt356 => ((laws_toTermS.f k l1).bind fun t360 => ((spec_ContentsOf.f k bt356.1 bt356.2 t360).bind fun bt363 => ((laws_toAlphabet.f k a0_0 l0_1).bind fun bt367 => ((laws_toTermS.f k l1).bind fun t372 => ((impl_ContentsOf.f k bt367.1 bt367.2 t372).bind fun bt375 => ((laws_eqInt64S.f k bt375.1 bt363.1).bind fun t379 => (if t379 = true then (laws_FnExactContentsOf.j0 k l1 bt363.1 bt363.2 t372 bt375.1 bt375.2 (bt375.2 != bt363.2) a0_0 l0_1 bt367.1 bt367.2) else (laws_FnExactContentsOf.j0 k l1 bt363.1 bt363.2 t372 bt375.1 bt375.2 true a0_0 l0_1 bt367.1 bt367.2))))))))))))) = some r := h
 clear h
 replace H := Option.bind_eq_some_iff.mp H
 obtain ⟨t354, A30, H⟩ := H
 replace H : (if t354 < 0 then (some true) else ((laws_szTermS.f l1 t354).bind fun t355 => (if t355 < 0 then (some true) else ((laws_toAlphabet.f k a0_0 l0_1).bind fun bt356 => ((laws_toTermS.f k l1).bind fun t360 => ((spec_ContentsOf.f k bt356.1 bt356.2 t360).bind fun bt363 => ((laws_toAlphabet.f k a0_0 l0_1).bind fun bt367 => ((laws_toTermS.f k l1).bind fun t372 => ((impl_ContentsOf.f k bt367.1 bt367.2 t372).bind fun bt375 => ((laws_eqInt64S.f k bt375.1 bt363.1).bind fun t379 => (if t379 = true then (laws_FnExactContentsOf.j0 k l1 bt363.1 bt363.2 t372 bt375.1 bt375.2 (bt375.2 != bt363.2) a0_0 l0_1 bt367.1 bt367.2) else (laws_FnExactContentsOf.j0 k l1 bt363.1 bt363.2 t372 bt375.1 bt375.2 true a0_0 l0_1 bt367.1 bt367.2)))))))))))) = some r := H
 have A3 := Aside0.mk A30
 clear A30
 by_cases c4 : t354 < 0
 ·rw [if_pos c4] at H
  have c4b0 : decide (t354 < 0) = true := decide_eq_true c4
  clear c4
  obtain rfl := Option.some.inj H
  go_enter Tryd.func3, Tryd.ntmps3
  go_wp2_with (first | ((with_reducible refine gate_dst (N := 2) rfl ?_); refine boxS (N := 2) (cs := #[.int .i64 a0_0, .slice A0_1 l0_1.length c0_1]) (t := 24) ?_; intro gb353 hg w5 hbox hb; have n0_ := Aside0.mk (below_step (bW) hb); have n1_ := Aside0.mk (hbox); have n2_ := geW (w := w) hg; have n3_ := geW (w := w) hg; clear HB; have HB := n0_; have BK353 := n1_; have GW353 := n2_; have GE353 := n3_; clear n0_ n1_ n2_ n3_ hb hbox hg; obtain ⟨hcz6_0, hcz6_1⟩ := cells2 BK353.out; obtain ⟨hfz6_0, hfz6_1⟩ := frz2 BK353.out) | ((with_reducible refine gate_callee (f := 6) rfl ?_); refine goesS (some 19) Tryd.func6 #[.agg #[.int .i64 a0_0, .slice A0_1 l0_1.length c0_1], .int .i64 1048576] ?_; (with_reducible refine (laws_szAlphabet.calls a0_0 _ _ l0_1 1048576 t354 _ ?side1 ?side2 A3.out).mono ?_); (case side1 => exact cP (Kd.C_below HR0_1.out HB.out)); (case side2 => exact HC0_1.out); rintro e w7 ⟨rfl, hb⟩; refine ⟨_, rfl, ?_⟩; have n0_ := Aside0.mk (blkB BK353.out hb); have n1_ := Aside0.mk (below_step (bW) hb); clear BK353 HB; have BK353 := n0_; have HB := n1_; clear n0_ n1_; (try clear hb); (try clear hb2); (try clear hk); (try clear hi)))
  go_ret
  exact ⟨eW, bW⟩
 ·rw [if_neg c4] at H
  have c4b0 : decide (t354 < 0) = false := decide_eq_false c4
  clear c4
  replace H := Option.bind_eq_some_iff.mp H
  obtain ⟨t355, A80, H⟩ := H
  replace H : (if t355 < 0 then (some true) else ((laws_toAlphabet.f k a0_0 l0_1).bind fun bt356 => ((laws_toTermS.f k l1).bind fun t360 => ((spec_ContentsOf.f k bt356.1 bt356.2 t360).bind fun bt363 => ((laws_toAlphabet.f k a0_0 l0_1).bind fun bt367 => ((laws_toTermS.f k l1).bind fun t372 => ((impl_ContentsOf.f k bt367.1 bt367.2 t372).bind fun bt375 => ((laws_eqInt64S.f k bt375.1 bt363.1).bind fun t379 => (if t379 = true then (laws_FnExactContentsOf.j0 k l1 bt363.1 bt363.2 t372 bt375.1 bt375.2 (bt375.2 != bt363.2) a0_0 l0_1 bt367.1 bt367.2) else (laws_FnExactContentsOf.j0 k l1 bt363.1 bt363.2 t372 bt375.1 bt375.2 true a0_0 l0_1 bt367.1 bt367.2)))))))))) = some r := H
  have A8 := Aside0.mk A80
  clear A80
  by_cases c9 : t355 < 0
  ·rw [if_pos c9] at H
   have c9b0 : decide (t355 < 0) = true := decide_eq_true c9
   clear c9
   obtain rfl := Option.some.inj H
   go_enter Tryd.func3, Tryd.ntmps3
   go_wp2_with (first | ((with_reducible refine gate_dst (N := 2) rfl ?_); refine boxS (N := 2) (cs := #[.int .i64 a0_0, .slice A0_1 l0_1.length c0_1]) (t := 24) ?_; intro gb353 hg w10 hbox hb; have n0_ := Aside0.mk (below_step (bW) hb); have n1_ := Aside0.mk (hbox); have n2_ := geW (w := w) hg; have n3_ := geW (w := w) hg; clear HB; have HB := n0_; have BK353 := n1_; have GW353 := n2_; have GE353 := n3_; clear n0_ n1_ n2_ n3_ hb hbox hg; obtain ⟨hcz11_0, hcz11_1⟩ := cells2 BK353.out; obtain ⟨hfz11_0, hfz11_1⟩ := frz2 BK353.out) | ((with_reducible refine gate_callee (f := 6) rfl ?_); refine goesS (some 19) Tryd.func6 #[.agg #[.int .i64 a0_0, .slice A0_1 l0_1.length c0_1], .int .i64 1048576] ?_; (with_reducible refine (laws_szAlphabet.calls a0_0 _ _ l0_1 1048576 t354 _ ?side1 ?side2 A3.out).mono ?_); (case side1 => exact cP (Kd.C_below HR0_1.out HB.out)); (case side2 => exact HC0_1.out); rintro e w12 ⟨rfl, hb⟩; refine ⟨_, rfl, ?_⟩; have n0_ := Aside0.mk (blkB BK353.out hb); have n1_ := Aside0.mk (below_step (bW) hb); clear BK353 HB; have BK353 := n0_; have HB := n1_; clear n0_ n1_; (try clear hb); (try clear hb2); (try clear hk); (try clear hi)) | ((with_reducible refine gate_callee (f := 7) rfl ?_); refine goesS (some 24) Tryd.func7 #[.slice A1 l1.length c1, .int .i64 t354] ?_; (with_reducible refine (laws_szTermS.calls _ _ l1 t354 t355 _ ?side1 ?side2 A8.out).mono ?_); (case side1 => exact cP (Kd.C_below HR1.out HB.out)); (case side2 => exact HC1.out); rintro e w' ⟨rfl, ⟨nd, rfl⟩⟩; refine ⟨_, rfl, ?_⟩))
   go_ret
   exact ⟨eW, bW⟩
  ·rw [if_neg c9] at H
   have c9b0 : decide (t355 < 0) = false := decide_eq_false c9
   clear c9
   replace H := Option.bind_eq_some_iff.mp H
   obtain ⟨⟨t356, t357⟩, A130, H⟩ := H
   replace H : ((laws_toTermS.f k l1).bind fun t360 => ((spec_ContentsOf.f k t356 t357 t360).bind fun bt363 => ((laws_toAlphabet.f k a0_0 l0_1).bind fun bt367 => ((laws_toTermS.f k l1).bind fun t372 => ((impl_ContentsOf.f k bt367.1 bt367.2 t372).bind fun bt375 => ((laws_eqInt64S.f k bt375.1 bt363.1).bind fun t379 => (if t379 = true then (laws_FnExactContentsOf.j0 k l1 bt363.1 bt363.2 t372 bt375.1 bt375.2 (bt375.2 != bt363.2) a0_0 l0_1 bt367.1 bt367.2) else (laws_FnExactContentsOf.j0 k l1 bt363.1 bt363.2 t372 bt375.1 bt375.2 true a0_0 l0_1 bt367.1 bt367.2)))))))) = some r := H
   have A13 := Aside0.mk A130
   clear A130
   replace H := Option.bind_eq_some_iff.mp H
   obtain ⟨t360, A140, H⟩ := H
   replace H : ((spec_ContentsOf.f k t356 t357 t360).bind fun bt363 => ((laws_toAlphabet.f k a0_0 l0_1).bind fun bt367 => ((laws_toTermS.f k l1).bind fun t372 => ((impl_ContentsOf.f k bt367.1 bt367.2 t372).bind fun bt375 => ((laws_eqInt64S.f k bt375.1 bt363.1).bind fun t379 => (if t379 = true then (laws_FnExactContentsOf.j0 k l1 bt363.1 bt363.2 t372 bt375.1 bt375.2 (bt375.2 != bt363.2) a0_0 l0_1 bt367.1 bt367.2) else (laws_FnExactContentsOf.j0 k l1 bt363.1 bt363.2 t372 bt375.1 bt375.2 true a0_0 l0_1 bt367.1 bt367.2))))))) = some r := H
   have A14 := Aside0.mk A140
   clear A140
   replace H := Option.bind_eq_some_iff.mp H
   obtain ⟨⟨t363, t366⟩, A150, H⟩ := H
   replace H : ((laws_toAlphabet.f k a0_0 l0_1).bind fun bt367 => ((laws_toTermS.f k l1).bind fun t372 => ((impl_ContentsOf.f k bt367.1 bt367.2 t372).bind fun bt375 => ((laws_eqInt64S.f k bt375.1 t363).bind fun t379 => (if t379 = true then (laws_FnExactContentsOf.j0 k l1 t363 t366 t372 bt375.1 bt375.2 (bt375.2 != t366) a0_0 l0_1 bt367.1 bt367.2) else (laws_FnExactContentsOf.j0 k l1 t363 t366 t372 bt375.1 bt375.2 true a0_0 l0_1 bt367.1 bt367.2)))))) = some r := H
   have A15 := Aside0.mk A150
   clear A150
   replace H := Option.bind_eq_some_iff.mp H
   obtain ⟨⟨t367, t368⟩, A160, H⟩ := H
   replace H : ((laws_toTermS.f k l1).bind fun t372 => ((impl_ContentsOf.f k t367 t368 t372).bind fun bt375 => ((laws_eqInt64S.f k bt375.1 t363).bind fun t379 => (if t379 = true then (laws_FnExactContentsOf.j0 k l1 t363 t366 t372 bt375.1 bt375.2 (bt375.2 != t366) a0_0 l0_1 t367 t368) else (laws_FnExactContentsOf.j0 k l1 t363 t366 t372 bt375.1 bt375.2 true a0_0 l0_1 t367 t368))))) = some r := H
   have A16 := Aside0.mk A160
   clear A160
   replace H := Option.bind_eq_some_iff.mp H
   obtain ⟨t372, A170, H⟩ := H
   replace H : ((impl_ContentsOf.f k t367 t368 t372).bind fun bt375 => ((laws_eqInt64S.f k bt375.1 t363).bind fun t379 => (if t379 = true then (laws_FnExactContentsOf.j0 k l1 t363 t366 t372 bt375.1 bt375.2 (bt375.2 != t366) a0_0 l0_1 t367 t368) else (laws_FnExactContentsOf.j0 k l1 t363 t366 t372 bt375.1 bt375.2 true a0_0 l0_1 t367 t368)))) = some r := H
   have A17 := Aside0.mk A170
   clear A170
   replace H := Option.bind_eq_some_iff.mp H
   obtain ⟨⟨t375, t378⟩, A180, H⟩ := H
   replace H : ((laws_eqInt64S.f k t375 t363).bind fun t379 => (if t379 = true then (laws_FnExactContentsOf.j0 k l1 t363 t366 t372 t375 t378 (t378 != t366) a0_0 l0_1 t367 t368) else (laws_FnExactContentsOf.j0 k l1 t363 t366 t372 t375 t378 true a0_0 l0_1 t367 t368))) = some r := H
   have A18 := Aside0.mk A180
   clear A180
   have HC19 := Aside0.mk H
   clear H
   go_enter Tryd.func3, Tryd.ntmps3
   go_upto_region 12 with (first | ((with_reducible refine gate_dst (N := 2) rfl ?_); refine boxS (N := 2) (cs := #[.int .i64 a0_0, .slice A0_1 l0_1.length c0_1]) (t := 24) ?_; intro gb353 hg w20 hbox hb; have n0_ := Aside0.mk (below_step (bW) hb); have n1_ := Aside0.mk (hbox); have n2_ := geW (w := w) hg; have n3_ := geW (w := w) hg; clear HB; have HB := n0_; have BK353 := n1_; have GW353 := n2_; have GE353 := n3_; clear n0_ n1_ n2_ n3_ hb hbox hg; obtain ⟨hcz21_0, hcz21_1⟩ := cells2 BK353.out; obtain ⟨hfz21_0, hfz21_1⟩ := frz2 BK353.out) | ((with_reducible refine gate_callee (f := 6) rfl ?_); refine goesS (some 19) Tryd.func6 #[.agg #[.int .i64 a0_0, .slice A0_1 l0_1.length c0_1], .int .i64 1048576] ?_; (with_reducible refine (laws_szAlphabet.calls a0_0 _ _ l0_1 1048576 t354 _ ?side1 ?side2 A3.out).mono ?_); (case side1 => exact cP (Kd.C_below HR0_1.out HB.out)); (case side2 => exact HC0_1.out); rintro e w22 ⟨rfl, hb⟩; refine ⟨_, rfl, ?_⟩; have n0_ := Aside0.mk (blkB BK353.out hb); have n1_ := Aside0.mk (below_step (bW) hb); clear BK353 HB; have BK353 := n0_; have HB := n1_; clear n0_ n1_; (try clear hb); (try clear hb2); (try clear hk); (try clear hi)) | ((with_reducible refine gate_callee (f := 7) rfl ?_); refine goesS (some 24) Tryd.func7 #[.slice A1 l1.length c1, .int .i64 t354] ?_; (with_reducible refine (laws_szTermS.calls _ _ l1 t354 t355 _ ?side1 ?side2 A8.out).mono ?_); (case side1 => exact cP (Kd.C_below HR1.out HB.out)); (case side2 => exact HC1.out); rintro e w' ⟨rfl, ⟨nd, rfl⟩⟩; refine ⟨_, rfl, ?_⟩; (try ((repeat rw [World.drewN_drewN w22]); (first | generalize hq_ : World.drewN w22 _ = w22 | (rw [drewN_self w22]; generalize hq_ : World.drewN w22 _ = w22)); have n0_ : Aside0 (w22.heap[gb353]? = some (.cells #[.int .i64 a0_0, .slice A0_1 l0_1.length c0_1] 24 (0, 0))) := ⟨by rw [← hq_]; exact (bP BK353.out)⟩; have n1_ : Aside0 (Below w.heap.size w w22) := ⟨by rw [← hq_]; exact (bW)⟩; clear BK353 HB hq_; have BK353 := n0_; have HB := n1_; clear n0_ n1_)); obtain ⟨hcz23_0, hcz23_1⟩ := cells2 BK353.out; obtain ⟨hfz23_0, hfz23_1⟩ := frz2 BK353.out) | ((with_reducible refine gate_callee (f := 9) rfl ?_); refine goesS (some 29) Tryd.func9 #[.agg #[.int .i64 a0_0, .slice A0_1 l0_1.length c0_1]] ?_; (with_reducible refine (laws_toAlphabet.calls k a0_0 _ _ l0_1 t356 t357 _ ?side1 ?side2 A13.out).mono ?_); (case side1 => exact cP (Kd.C_below HR0_1.out HB.out)); (case side2 => exact HC0_1.out); rintro e w24 ⟨v358, rfl, ho0, hb⟩; refine ⟨_, rfl, ?_⟩; have n0_ := Aside0.mk (Kd.R_lower ho0 (below_size (bW))); have n1_ := Aside0.mk (blkB BK353.out hb); have n2_ := Aside0.mk (below_step (bW) hb); clear BK353 HB; have HO359 := n0_; have BK353 := n1_; have HB := n2_; clear n0_ n1_ n2_; (try clear hb); (try clear hb2); (try clear hk); (try clear hi); (try clear ho0)) | ((with_reducible refine gate_callee (f := 10) rfl ?_); refine goesS (some 31) Tryd.func10 #[.slice A1 l1.length c1] ?_; (with_reducible refine (laws_toTermS.calls k _ _ l1 t360 _ ?side1 ?side2 A14.out).mono ?_); (case side1 => exact cP (Kd.C_below HR1.out HB.out)); (case side2 => exact HC1.out); rintro e w25 ⟨v361, rfl, ho0, hb⟩; refine ⟨_, rfl, ?_⟩; have n0_ := Aside0.mk (Kd.R_below (rP HO359.out) hb); have n1_ := Aside0.mk (Kd.R_lower ho0 (below_size (bW))); have n2_ := Aside0.mk (blkB BK353.out hb); have n3_ := Aside0.mk (below_step (bW) hb); clear HO359 BK353 HB; have HO359 := n0_; have HO362 := n1_; have BK353 := n2_; have HB := n3_; clear n0_ n1_ n2_ n3_; (try clear hb); (try clear hb2); (try clear hk); (try clear hi); (try clear ho0); obtain ⟨Ao26, co26, eo26⟩ := Kd.R_slice HO359.out; subst eo26; obtain ⟨Ao27, co27, eo27⟩ := Kd.R_slice HO362.out; subst eo27) | ((with_reducible refine gate_callee (f := 8) rfl ?_); refine goesS (some 32) Tryd.func8 #[.agg #[.int .i64 t356, .slice Ao26 t357.length co26], .slice Ao27 t360.length co27] ?_; (with_reducible refine (spec_ContentsOf.calls k t356 _ _ t357 _ _ t360 t363 t366 _ ?side1 ?side2 ?side3 ?side4 A15.out).mono ?_); (case side1 => exact cP ((Kd.R_reads' HO359.out).2.2)); (case side2 => exact (Kd.R_reads' HO359.out).2.1); (case side3 => exact cP ((Kd.R_reads' HO362.out).2.2)); (case side4 => exact (Kd.R_reads' HO362.out).2.1); rintro e w28 ⟨v364, rfl, ho0, hb⟩; refine ⟨_, rfl, ?_⟩; have n0_ := Aside0.mk (Kd.R_elder' (rP HO359.out) (Kd.R_base ho0) hb); have n1_ := Aside0.mk (Kd.R_below (rP HO362.out) hb); have n2_ := Aside0.mk (Kd.R_lower (Kd.R_new' ho0 (Kd.R_lt (rP HO359.out))) (below_size (bW))); have n3_ := Aside0.mk (blkB BK353.out hb); have n4_ := Aside0.mk (below_step (bW) hb); clear HO359 HO362 BK353 HB; have HO359 := n0_; have HO362 := n1_; have HO365 := n2_; have BK353 := n3_; have HB := n4_; clear n0_ n1_ n2_ n3_ n4_; (try clear hb); (try clear hb2); (try clear hk); (try clear hi); (try clear ho0); obtain ⟨hcz29_0, hcz29_1⟩ := cells2 BK353.out; obtain ⟨hfz29_0, hfz29_1⟩ := frz2 BK353.out) | ((with_reducible refine gate_callee (f := 9) rfl ?_); refine goesS (some 36) Tryd.func9 #[.agg #[.int .i64 a0_0, .slice A0_1 l0_1.length c0_1]] ?_; (with_reducible refine (laws_toAlphabet.calls k a0_0 _ _ l0_1 t367 t368 _ ?side1 ?side2 A16.out).mono ?_); (case side1 => exact cP (Kd.C_below HR0_1.out HB.out)); (case side2 => exact HC0_1.out); rintro e w30 ⟨v369, rfl, ho0, hb⟩; refine ⟨_, rfl, ?_⟩; have n0_ := Aside0.mk (Kd.R_elder' (rP HO359.out) (Kd.R_base ho0) hb); have n1_ := Aside0.mk (Kd.R_below (rP HO362.out) hb); have n2_ := Aside0.mk (Kd.R_elder' (rP HO365.out) (Kd.R_base ho0) hb); have n3_ := Aside0.mk (Kd.R_lower (Kd.R_new' (Kd.R_new' ho0 (Kd.R_lt (rP HO359.out))) (Kd.R_lt (rP HO365.out))) (below_size (bW))); have n4_ := Aside0.mk (blkB BK353.out hb); have n5_ := Aside0.mk (below_step (bW) hb); clear HO359 HO362 HO365 BK353 HB; have HO359 := n0_; have HO362 := n1_; have HO365 := n2_; have HO370 := n3_; have BK353 := n4_; have HB := n5_; clear n0_ n1_ n2_ n3_ n4_ n5_; (try clear hb); (try clear hb2); (try clear hk); (try clear hi); (try clear ho0)) | ((with_reducible refine gate_dst (N := 8) rfl ?_); refine boxS (N := 8) (cs := #[.int .i64 0, .slice none 0 0]) (t := 30) ?_; intro gb371 hg w31 hbox hb; have n0_ := Aside0.mk (Kd.R_below (rP HO359.out) hb); have n1_ := Aside0.mk (Kd.R_below (rP HO362.out) hb); have n2_ := Aside0.mk (Kd.R_below (rP HO365.out) hb); have n3_ := Aside0.mk (Kd.R_below (rP HO370.out) hb); have n4_ := Aside0.mk (blkB BK353.out hb); have n5_ := Aside0.mk (below_step (bW) hb); have n6_ := Aside0.mk (hbox); have n7_ := geW (w := w) hg; have n8_ := geW (w := w) hg; have n9_ := Aside0.mk ((by rw [hg]; exact Nat.ne_of_lt (blk_lt (g := gb353) (o := .cells #[.int .i64 a0_0, .slice A0_1 l0_1.length c0_1] 24 (0, 0)) (bP BK353.out)) : gb353 ≠ gb371)); have n10_ := Aside0.mk ((by rw [hg]; exact Nat.ne_of_gt (blk_lt (g := gb353) (o := .cells #[.int .i64 a0_0, .slice A0_1 l0_1.length c0_1] 24 (0, 0)) (bP BK353.out)) : gb371 ≠ gb353)); clear HO359 HO362 HO365 HO370 BK353 HB; have HO359 := n0_; have HO362 := n1_; have HO365 := n2_; have HO370 := n3_; have BK353 := n4_; have HB := n5_; have BK371 := n6_; have GW371 := n7_; have GE371 := n8_; have NB353_371 := n9_; have NB371_353 := n10_; clear n0_ n1_ n2_ n3_ n4_ n5_ n6_ n7_ n8_ n9_ n10_ hb hbox hg; have hnb32 := NB371_353.out; have hnc32 := NB353_371.out; obtain ⟨hcz33_0, hcz33_1⟩ := cells2 BK371.out; obtain ⟨hfz33_0, hfz33_1⟩ := frz2 BK371.out; obtain ⟨Ao34, co34, eo34⟩ := Kd.R_slice HO370.out; subst eo34) | ((with_reducible refine gate_callee (f := 10) rfl ?_); refine goesS (some 38) Tryd.func10 #[.slice A1 l1.length c1] ?_; (with_reducible refine (laws_toTermS.calls k _ _ l1 t372 _ ?side1 ?side2 A17.out).mono ?_); (case side1 => exact Kd.C_below HR1.out (bW)); (case side2 => exact HC1.out); rintro e w35 ⟨v373, rfl, ho0, hb⟩; refine ⟨_, rfl, ?_⟩; have n0_ := Aside0.mk (Kd.R_below (by (with_reducible repeat (first | apply Kd.R_alloc | apply Kd.R_drewN | apply Kd.R_drew)); exact (Kd.R_mono (Kd.R_far (p := ⟨gb371, 1, none⟩) (Kd.R_far (p := ⟨gb371, 0, none⟩) (Kd.R_types HO359.out BK371.out (by decide)) (fun _ hk => hk.2) (.int .i64 t367)) (fun _ hk => hk.2) (.slice Ao34 t368.length co34)) (fun _ h_ => h_.1))) hb); have n1_ := Aside0.mk (Kd.R_elder' (by (with_reducible repeat (first | apply Kd.R_alloc | apply Kd.R_drewN | apply Kd.R_drew)); exact (Kd.R_mono (Kd.R_far (p := ⟨gb371, 1, none⟩) (Kd.R_far (p := ⟨gb371, 0, none⟩) (Kd.R_types HO362.out BK371.out (by decide)) (fun _ hk => hk.2) (.int .i64 t367)) (fun _ hk => hk.2) (.slice Ao34 t368.length co34)) (fun _ h_ => h_.1))) (Kd.R_base ho0) hb); have n2_ := Aside0.mk (Kd.R_below (by (with_reducible repeat (first | apply Kd.R_alloc | apply Kd.R_drewN | apply Kd.R_drew)); exact (Kd.R_mono (Kd.R_far (p := ⟨gb371, 1, none⟩) (Kd.R_far (p := ⟨gb371, 0, none⟩) (Kd.R_types HO365.out BK371.out (by decide)) (fun _ hk => hk.2) (.int .i64 t367)) (fun _ hk => hk.2) (.slice Ao34 t368.length co34)) (fun _ h_ => h_.1))) hb); have n3_ := Aside0.mk (Kd.R_below (by (with_reducible repeat (first | apply Kd.R_alloc | apply Kd.R_drewN | apply Kd.R_drew)); exact (Kd.R_mono (Kd.R_far (p := ⟨gb371, 1, none⟩) (Kd.R_far (p := ⟨gb371, 0, none⟩) (Kd.R_types HO370.out BK371.out (by decide)) (fun _ hk => hk.2) (.int .i64 t367)) (fun _ hk => hk.2) (.slice Ao34 t368.length co34)) (fun _ h_ => h_.1))) hb); have n4_ := Aside0.mk (Kd.R_lower (Kd.R_new' ho0 (Kd.R_lt (by (with_reducible repeat (first | apply Kd.R_alloc | apply Kd.R_drewN | apply Kd.R_drew)); exact (Kd.R_mono (Kd.R_far (p := ⟨gb371, 1, none⟩) (Kd.R_far (p := ⟨gb371, 0, none⟩) (Kd.R_types HO362.out BK371.out (by decide)) (fun _ hk => hk.2) (.int .i64 t367)) (fun _ hk => hk.2) (.slice Ao34 t368.length co34)) (fun _ h_ => h_.1))))) (below_size (bW))); have n5_ := Aside0.mk (blk_below (g := gb353) (o := .cells #[.int .i64 a0_0, .slice A0_1 l0_1.length c0_1] 24 (0, 0)) (by (with_reducible repeat (first | refine blk_drewN ?_ _ | refine blk_drew ?_ | refine blk_alloc ?_ _)); refine blk_far ?_ NB353_371.out _; (with_reducible repeat (first | refine blk_drewN ?_ _ | refine blk_drew ?_ | refine blk_alloc ?_ _)); refine blk_far ?_ NB353_371.out _; exact bP BK353.out) hb); have n6_ := Aside0.mk (blk_below (g := gb371) (o := .cells #[.int .i64 t367, .slice Ao34 t368.length co34] 30 (0, 0)) (by (with_reducible repeat (first | refine blk_drewN ?_ _ | refine blk_drew ?_ | refine blk_alloc ?_ _)); refine blk_put (cs := #[.int .i64 t367, .slice none 0 0]) ?_ 1 _ rfl; (with_reducible repeat (first | refine blk_drewN ?_ _ | refine blk_drew ?_ | refine blk_alloc ?_ _)); refine blk_put (cs := #[.int .i64 0, .slice none 0 0]) ?_ 0 _ rfl; exact bP BK371.out) hb); have n7_ := Aside0.mk (below_step (bW) hb); clear HO359 HO362 HO365 HO370 BK353 BK371 HB; have HO359 := n0_; have HO362 := n1_; have HO365 := n2_; have HO370 := n3_; have HO374 := n4_; have BK353 := n5_; have BK371 := n6_; have HB := n7_; clear n0_ n1_ n2_ n3_ n4_ n5_ n6_ n7_; (try clear hb); (try clear hb2); (try clear hk); (try clear hi); (try clear ho0); obtain ⟨hcz36_0, hcz36_1⟩ := cells2 BK371.out; obtain ⟨hfz36_0, hfz36_1⟩ := frz2 BK371.out; obtain ⟨Ao37, co37, eo37⟩ := Kd.R_slice HO374.out; subst eo37) | ((with_reducible refine gate_callee (f := 11) rfl ?_); refine goesS (some 42) Tryd.func11 #[.agg #[.int .i64 t367, .slice Ao34 t368.length co34], .slice Ao37 t372.length co37] ?_; (with_reducible refine (impl_ContentsOf.calls k t367 _ _ t368 _ _ t372 t375 t378 _ ?side1 ?side2 ?side3 ?side4 A18.out (tabW HTab.out)).mono ?_); (case side1 => exact cP ((Kd.R_reads' HO370.out).2.2)); (case side2 => exact (Kd.R_reads' HO370.out).2.1); (case side3 => exact cP ((Kd.R_reads' HO374.out).2.2)); (case side4 => exact (Kd.R_reads' HO374.out).2.1); rintro e w38 ⟨v376, rfl, ho0, hb⟩; refine ⟨_, rfl, ?_⟩; have n0_ := Aside0.mk (Kd.R_elder' (rP HO359.out) (Kd.R_base ho0) hb); have n1_ := Aside0.mk (Kd.R_below (rP HO362.out) hb); have n2_ := Aside0.mk (Kd.R_elder' (rP HO365.out) (Kd.R_base ho0) hb); have n3_ := Aside0.mk (Kd.R_elder' (rP HO370.out) (Kd.R_base ho0) hb); have n4_ := Aside0.mk (Kd.R_below (rP HO374.out) hb); have n5_ := Aside0.mk (Kd.R_lower (Kd.R_new' (Kd.R_new' (Kd.R_new' ho0 (Kd.R_lt (rP HO359.out))) (Kd.R_lt (rP HO365.out))) (Kd.R_lt (rP HO370.out))) (below_size (bW))); have n6_ := Aside0.mk (blkB BK353.out hb); have n7_ := Aside0.mk (blkB BK371.out hb); have n8_ := Aside0.mk (below_step (bW) hb); clear HO359 HO362 HO365 HO370 HO374 BK353 BK371 HB; have HO359 := n0_; have HO362 := n1_; have HO365 := n2_; have HO370 := n3_; have HO374 := n4_; have HO377 := n5_; have BK353 := n6_; have BK371 := n7_; have HB := n8_; clear n0_ n1_ n2_ n3_ n4_ n5_ n6_ n7_ n8_; (try clear hb); (try clear hb2); (try clear hk); (try clear hi); (try clear ho0)))
   (try simp only [Act.put, List.setIfInBounds_toArray, List.set_cons_zero, List.set_cons_succ])
   go_cut [53] (fun v53 wc => ∃ (kq : Nat) (x53_18 : Bool), v53 = .bool x53_18 ∧ Aside0 (laws_FnExactContentsOf.j0 kq l1 t363 t366 t372 t375 t378 x53_18 a0_0 l0_1 t367 t368 = some r) ∧ Aside0 (kq ≤ k) ∧ Aside0 (Kd.R (Kd.int .i64) 2 wc w.heap.size (fun k_ => some k_ ≠ (v376 : Value).ownBlock ∧ some k_ ≠ ((.slice Ao34 t368.length co34) : Value).ownBlock) v364 t363) ∧ Aside0 (Kd.R k50 50 wc w.heap.size (fun _ => True) (.slice Ao37 t372.length co37) t372) ∧ Aside0 (Kd.R (Kd.int .i64) 2 wc w.heap.size (fun k_ => some k_ ≠ (v364 : Value).ownBlock ∧ some k_ ≠ ((.slice Ao34 t368.length co34) : Value).ownBlock) v376 t375) ∧ Aside0 (Kd.R (Kd.int .i64) 2 wc w.heap.size (fun k_ => some k_ ≠ (v364 : Value).ownBlock ∧ some k_ ≠ (v376 : Value).ownBlock) (.slice Ao34 t368.length co34) t368) ∧ Aside0 (wc.heap[gb353]? = some (.cells #[.int .i64 a0_0, (.slice A0_1 l0_1.length c0_1)] 24 (0, 0))) ∧ Aside0 (wc.heap[gb371]? = some (.cells #[.int .i64 t367, (.slice Ao34 t368.length co34)] 30 (0, 0))) ∧ Aside0 (Below w.heap.size w wc))
   case first =>
    have H := HC19.out
    clear HC19
    replace H := Option.bind_eq_some_iff.mp H
    obtain ⟨t379, A390, H⟩ := H
    replace H : (if t379 = true then (laws_FnExactContentsOf.j0 k l1 t363 t366 t372 t375 t378 (t378 != t366) a0_0 l0_1 t367 t368) else (laws_FnExactContentsOf.j0 k l1 t363 t366 t372 t375 t378 true a0_0 l0_1 t367 t368)) = some r := H
    have A39 := Aside0.mk A390
    clear A390
    by_cases c40 : t379 = true
    ·subst c40
     have H1 : (laws_FnExactContentsOf.j0 k l1 t363 t366 t372 t375 t378 (t378 != t366) a0_0 l0_1 t367 t368) = some r := by rw [if_pos rfl] at H; exact H
     clear H
     have H := H1
     clear H1
     have H' := Aside0.mk H
     clear H
     obtain ⟨Ao41, co41, eo41⟩ := Kd.R_slice HO377.out
     subst eo41
     obtain ⟨Ao42, co42, eo42⟩ := Kd.R_slice HO365.out
     subst eo42
     go_wp2_with (first | ((with_reducible refine gate_callee (f := 12) rfl ?_); refine goesS (some 47) Tryd.func12 #[.slice Ao41 t375.length co41, .slice Ao42 t363.length co42] ?_; (with_reducible refine (laws_eqInt64S.calls k _ _ t375 _ _ t363 true _ ?side1 ?side2 ?side3 ?side4 A39.out).mono ?_); (case side1 => exact cP ((Kd.R_reads' HO377.out).2.2)); (case side2 => exact (Kd.R_reads' HO377.out).2.1); (case side3 => exact cP ((Kd.R_reads' HO365.out).2.2)); (case side4 => exact (Kd.R_reads' HO365.out).2.1); rintro e w' ⟨rfl, ⟨nd, rfl⟩⟩; refine ⟨_, rfl, ?_⟩))
     go_meet
     case rel => exact ⟨_, ((t378 != t366)), (eW), H', ⟨by first | omega | exact Nat.le_refl _⟩, ⟨by (with_reducible repeat (first | apply Kd.R_alloc | apply Kd.R_drewN | apply Kd.R_drew)); exact Kd.R_mono HO365.out (fun _ hk => ⟨hk.2, hk.1.2⟩)⟩, ⟨by (with_reducible repeat (first | apply Kd.R_alloc | apply Kd.R_drewN | apply Kd.R_drew)); exact Kd.R_mono HO374.out (fun _ hk => trivial)⟩, ⟨by (with_reducible repeat (first | apply Kd.R_alloc | apply Kd.R_drewN | apply Kd.R_drew)); exact Kd.R_mono HO377.out (fun _ hk => ⟨hk.1.2, hk.2⟩)⟩, ⟨by (with_reducible repeat (first | apply Kd.R_alloc | apply Kd.R_drewN | apply Kd.R_drew)); exact Kd.R_mono HO370.out (fun _ hk => ⟨hk.1.2, hk.2⟩)⟩, ⟨(bP BK353.out)⟩, ⟨(bP BK371.out)⟩, ⟨bW⟩⟩
    ·replace c40 := Bool.eq_false_iff.mpr c40
     subst c40
     have H1 : (laws_FnExactContentsOf.j0 k l1 t363 t366 t372 t375 t378 true a0_0 l0_1 t367 t368) = some r := by rw [if_neg (show ¬ (false = true) by decide)] at H; exact H
     clear H
     have H := H1
     clear H1
     have H' := Aside0.mk H
     clear H
     obtain ⟨Ao43, co43, eo43⟩ := Kd.R_slice HO377.out
     subst eo43
     obtain ⟨Ao44, co44, eo44⟩ := Kd.R_slice HO365.out
     subst eo44
     go_wp2_with (first | ((with_reducible refine gate_callee (f := 12) rfl ?_); refine goesS (some 47) Tryd.func12 #[.slice Ao43 t375.length co43, .slice Ao44 t363.length co44] ?_; (with_reducible refine (laws_eqInt64S.calls k _ _ t375 _ _ t363 false _ ?side1 ?side2 ?side3 ?side4 A39.out).mono ?_); (case side1 => exact cP ((Kd.R_reads' HO377.out).2.2)); (case side2 => exact (Kd.R_reads' HO377.out).2.1); (case side3 => exact cP ((Kd.R_reads' HO365.out).2.2)); (case side4 => exact (Kd.R_reads' HO365.out).2.1); rintro e w' ⟨rfl, ⟨nd, rfl⟩⟩; refine ⟨_, rfl, ?_⟩))
     go_meet
     case rel => exact ⟨_, (true), (eW), H', ⟨by first | omega | exact Nat.le_refl _⟩, ⟨by (with_reducible repeat (first | apply Kd.R_alloc | apply Kd.R_drewN | apply Kd.R_drew)); exact Kd.R_mono HO365.out (fun _ hk => ⟨hk.2, hk.1.2⟩)⟩, ⟨by (with_reducible repeat (first | apply Kd.R_alloc | apply Kd.R_drewN | apply Kd.R_drew)); exact Kd.R_mono HO374.out (fun _ hk => trivial)⟩, ⟨by (with_reducible repeat (first | apply Kd.R_alloc | apply Kd.R_drewN | apply Kd.R_drew)); exact Kd.R_mono HO377.out (fun _ hk => ⟨hk.1.2, hk.2⟩)⟩, ⟨by (with_reducible repeat (first | apply Kd.R_alloc | apply Kd.R_drewN | apply Kd.R_drew)); exact Kd.R_mono HO370.out (fun _ hk => ⟨hk.1.2, hk.2⟩)⟩, ⟨(bP BK353.out)⟩, ⟨(bP BK371.out)⟩, ⟨bW⟩⟩
   case rest =>
    clear HC19
    try clear c1
    try clear p2
    try clear c3
    try clear c4
    try clear c4b0
    try clear c6
    try clear c7
    try clear c8
    try clear c9
    try clear c9b0
    try clear c10
    try clear c11
    try clear c12
    try clear c32
    try clear c40
    try clear hcz11_0
    try clear hcz11_1
    try clear hcz21_0
    try clear hcz21_1
    try clear hcz23_0
    try clear hcz23_1
    try clear hcz29_0
    try clear hcz29_1
    try clear hcz33_0
    try clear hcz33_1
    try clear hcz36_0
    try clear hcz36_1
    try clear hcz6_0
    try clear hcz6_1
    try clear hfz11_0
    try clear hfz11_1
    try clear hfz21_0
    try clear hfz21_1
    try clear hfz23_0
    try clear hfz23_1
    try clear hfz29_0
    try clear hfz29_1
    try clear hfz33_0
    try clear hfz33_1
    try clear hfz36_0
    try clear hfz36_1
    try clear hfz6_0
    try clear hfz6_1
    obtain ⟨kq, x53_18, rfl, HA, HJ18, HO_6, HO_9, HO_10, HO_372001, BK353, BK371, HB⟩ := hcut
    cases kq with
    | zero => exact absurd HA.out (by simp [laws_FnExactContentsOf.j0])
    | succ kj18 =>
     have H := HA.out
     clear HA
     simp only [laws_FnExactContentsOf.j0] at H
     by_cases c45 : x53_18 = true
     ·subst c45
      have H1 : (some false) = some r := by rw [if_pos rfl] at H; exact H
      clear H
      have H := H1
      clear H1
      exact absurd (Option.some.inj H) (by rw [HTr_.out]; decide)
     ·replace c45 := Bool.eq_false_iff.mpr c45
      subst c45
      have H1 : ((laws_toAlphabet.f kj18 a0_0 l0_1).bind fun bt380 => ((laws_eqAlphabet.f kj18 t367 t368 bt380.1 bt380.2).bind fun t384 => (if t384 = true then ((laws_toTermS.f kj18 l1).bind fun t385 => ((laws_eqTermS.f kj18 t372 t385).bind fun t388 => (if t388 = true then ((laws_markAlphabet.f kj18 t367 t368 1).bind fun bt389 => ((laws_markTermS.f kj18 t372 bt389.1).bind fun bt391 => (if bt391.1 < 0 then (laws_FnExactContentsOf.j1 kj18 l1 t363 t366 t375 true a0_0 l0_1) else ((laws_eqInt64S.f kj18 t375 t363).bind fun t393 => (if t393 = true then (laws_FnExactContentsOf.j1 kj18 l1 t363 t366 t375 (t378 != t366) a0_0 l0_1) else (laws_FnExactContentsOf.j1 kj18 l1 t363 t366 t375 true a0_0 l0_1)))))) else (some false)))) else (some false)))) = some r := by rw [if_neg (show ¬ (false = true) by decide)] at H; exact H
      clear H
      have H := H1
      clear H1
      replace H := Option.bind_eq_some_iff.mp H
      obtain ⟨⟨t380, t381⟩, A460, H⟩ := H
      replace H : ((laws_eqAlphabet.f kj18 t367 t368 t380 t381).bind fun t384 => (if t384 = true then ((laws_toTermS.f kj18 l1).bind fun t385 => ((laws_eqTermS.f kj18 t372 t385).bind fun t388 => (if t388 = true then ((laws_markAlphabet.f kj18 t367 t368 1).bind fun bt389 => ((laws_markTermS.f kj18 t372 bt389.1).bind fun bt391 => (if bt391.1 < 0 then (laws_FnExactContentsOf.j1 kj18 l1 t363 t366 t375 true a0_0 l0_1) else ((laws_eqInt64S.f kj18 t375 t363).bind fun t393 => (if t393 = true then (laws_FnExactContentsOf.j1 kj18 l1 t363 t366 t375 (t378 != t366) a0_0 l0_1) else (laws_FnExactContentsOf.j1 kj18 l1 t363 t366 t375 true a0_0 l0_1)))))) else (some false)))) else (some false))) = some r := H
      have A46 := Aside0.mk A460
      clear A460
      replace H := Option.bind_eq_some_iff.mp H
      obtain ⟨t384, A470, H⟩ := H
      replace H : (if t384 = true then ((laws_toTermS.f kj18 l1).bind fun t385 => ((laws_eqTermS.f kj18 t372 t385).bind fun t388 => (if t388 = true then ((laws_markAlphabet.f kj18 t367 t368 1).bind fun bt389 => ((laws_markTermS.f kj18 t372 bt389.1).bind fun bt391 => (if bt391.1 < 0 then (laws_FnExactContentsOf.j1 kj18 l1 t363 t366 t375 true a0_0 l0_1) else ((laws_eqInt64S.f kj18 t375 t363).bind fun t393 => (if t393 = true then (laws_FnExactContentsOf.j1 kj18 l1 t363 t366 t375 (t378 != t366) a0_0 l0_1) else (laws_FnExactContentsOf.j1 kj18 l1 t363 t366 t375 true a0_0 l0_1)))))) else (some false)))) else (some false)) = some r := H
      have A47 := Aside0.mk A470
      clear A470
      by_cases c48 : t384 = true
      ·subst c48
       have H1 : ((laws_toTermS.f kj18 l1).bind fun t385 => ((laws_eqTermS.f kj18 t372 t385).bind fun t388 => (if t388 = true then ((laws_markAlphabet.f kj18 t367 t368 1).bind fun bt389 => ((laws_markTermS.f kj18 t372 bt389.1).bind fun bt391 => (if bt391.1 < 0 then (laws_FnExactContentsOf.j1 kj18 l1 t363 t366 t375 true a0_0 l0_1) else ((laws_eqInt64S.f kj18 t375 t363).bind fun t393 => (if t393 = true then (laws_FnExactContentsOf.j1 kj18 l1 t363 t366 t375 (t378 != t366) a0_0 l0_1) else (laws_FnExactContentsOf.j1 kj18 l1 t363 t366 t375 true a0_0 l0_1)))))) else (some false)))) = some r := by rw [if_pos rfl] at H; exact H
       clear H
       have H := H1
       clear H1
       replace H := Option.bind_eq_some_iff.mp H
       obtain ⟨t385, A490, H⟩ := H
       replace H : ((laws_eqTermS.f kj18 t372 t385).bind fun t388 => (if t388 = true then ((laws_markAlphabet.f kj18 t367 t368 1).bind fun bt389 => ((laws_markTermS.f kj18 t372 bt389.1).bind fun bt391 => (if bt391.1 < 0 then (laws_FnExactContentsOf.j1 kj18 l1 t363 t366 t375 true a0_0 l0_1) else ((laws_eqInt64S.f kj18 t375 t363).bind fun t393 => (if t393 = true then (laws_FnExactContentsOf.j1 kj18 l1 t363 t366 t375 (t378 != t366) a0_0 l0_1) else (laws_FnExactContentsOf.j1 kj18 l1 t363 t366 t375 true a0_0 l0_1)))))) else (some false))) = some r := H
       have A49 := Aside0.mk A490
       clear A490
       replace H := Option.bind_eq_some_iff.mp H
       obtain ⟨t388, A500, H⟩ := H
       replace H : (if t388 = true then ((laws_markAlphabet.f kj18 t367 t368 1).bind fun bt389 => ((laws_markTermS.f kj18 t372 bt389.1).bind fun bt391 => (if bt391.1 < 0 then (laws_FnExactContentsOf.j1 kj18 l1 t363 t366 t375 true a0_0 l0_1) else ((laws_eqInt64S.f kj18 t375 t363).bind fun t393 => (if t393 = true then (laws_FnExactContentsOf.j1 kj18 l1 t363 t366 t375 (t378 != t366) a0_0 l0_1) else (laws_FnExactContentsOf.j1 kj18 l1 t363 t366 t375 true a0_0 l0_1)))))) else (some false)) = some r := H
       have A50 := Aside0.mk A500
       clear A500
       by_cases c51 : t388 = true
       ·subst c51
        have H1 : ((laws_markAlphabet.f kj18 t367 t368 1).bind fun bt389 => ((laws_markTermS.f kj18 t372 bt389.1).bind fun bt391 => (if bt391.1 < 0 then (laws_FnExactContentsOf.j1 kj18 l1 t363 t366 t375 true a0_0 l0_1) else ((laws_eqInt64S.f kj18 t375 t363).bind fun t393 => (if t393 = true then (laws_FnExactContentsOf.j1 kj18 l1 t363 t366 t375 (t378 != t366) a0_0 l0_1) else (laws_FnExactContentsOf.j1 kj18 l1 t363 t366 t375 true a0_0 l0_1)))))) = some r := by rw [if_pos rfl] at H; exact H
        clear H
        have H := H1
        clear H1
        replace H := Option.bind_eq_some_iff.mp H
        obtain ⟨⟨t389, t390⟩, A520, H⟩ := H
        replace H : ((laws_markTermS.f kj18 t372 t389).bind fun bt391 => (if bt391.1 < 0 then (laws_FnExactContentsOf.j1 kj18 l1 t363 t366 t375 true a0_0 l0_1) else ((laws_eqInt64S.f kj18 t375 t363).bind fun t393 => (if t393 = true then (laws_FnExactContentsOf.j1 kj18 l1 t363 t366 t375 (t378 != t366) a0_0 l0_1) else (laws_FnExactContentsOf.j1 kj18 l1 t363 t366 t375 true a0_0 l0_1))))) = some r := H
        have A52 := Aside0.mk A520
        clear A520
        replace H := Option.bind_eq_some_iff.mp H
        obtain ⟨⟨t391, t392⟩, A530, H⟩ := H
        replace H : (if t391 < 0 then (laws_FnExactContentsOf.j1 kj18 l1 t363 t366 t375 true a0_0 l0_1) else ((laws_eqInt64S.f kj18 t375 t363).bind fun t393 => (if t393 = true then (laws_FnExactContentsOf.j1 kj18 l1 t363 t366 t375 (t378 != t366) a0_0 l0_1) else (laws_FnExactContentsOf.j1 kj18 l1 t363 t366 t375 true a0_0 l0_1)))) = some r := H
        have A53 := Aside0.mk A530
        clear A530
        have HC54 := Aside0.mk H
        clear H
        try go_wp2
        have n0_ := Aside0.mk (Kd.R_drew HO_6.out)
        have n1_ := Aside0.mk (Kd.R_drew HO_9.out)
        have n2_ := Aside0.mk (Kd.R_drew HO_10.out)
        have n3_ := Aside0.mk (Kd.R_drew HO_372001.out)
        have n4_ := Aside0.mk (blk_drew BK353.out)
        have n5_ := Aside0.mk (blk_drew BK371.out)
        have n6_ := Aside0.mk (below_drew1 HB.out)
        clear HO_6 HO_9 HO_10 HO_372001 BK353 BK371 HB; have HO_6 := n0_; have HO_9 := n1_; have HO_10 := n2_; have HO_372001 := n3_; have BK353 := n4_; have BK371 := n5_; have HB := n6_; clear n0_ n1_ n2_ n3_ n4_ n5_ n6_
        refine start_ (n := 5) (S := fun w' => w'.cell? ⟨gb371, 0, none⟩ = some (.int .i64 t367) ∧ w'.cell? ⟨gb371, 1, none⟩ = some (.slice Ao34 t368.length co34) ∧ w'.cell? ⟨gb353, 0, none⟩ = some (.int .i64 a0_0) ∧ w'.cell? ⟨gb353, 1, none⟩ = some (.slice A0_1 l0_1.length c0_1)) (ds := []) #[false, false, false, false, false] (by kernel_rfl) rfl rfl ⟨(blk_cell BK371.out 0).trans rfl, (blk_cell BK371.out 1).trans rfl, (blk_cell BK353.out 0).trans rfl, (blk_cell BK353.out 1).trans rfl⟩ (fun hHeld => ?_)
        generalize wc.drew = w55 at HO_6 HO_9 HO_10 HO_372001 BK353 BK371 HB hHeld ⊢
        refine takeS (i := 0) (N := some 54) (by kernel_rfl) hHeld ?_
        refine takeS (i := 1) (N := some 55) (by kernel_rfl) hHeld ?_
        refine one_ (i := 2) (N := some 56) #[true, true, true, false, false] rfl rfl (by kernel_rfl) (by decide) (fun K hK => ?_)
        refine goes_ Tryd.func9 (by kernel_rfl) rfl #[.agg #[.int .i64 a0_0, .slice A0_1 l0_1.length c0_1]] (by rfl) rfl rfl (by (try simp only [List.map_toArray, List.map_cons, List.map_nil]); first | done | rfl | (simp only [List.length_drop, List.length_take]; rfl)) ?_
        with_reducible refine (laws_toAlphabet.calls kj18 a0_0 _ _ l0_1 t380 t381 _ ?side1 ?side2 A46.out).mono ?_
        (case side1 => exact cP (Kd.C_below HR0_1.out HB.out))
        (case side2 => exact HC0_1.out)
        rintro e w56 ⟨v382, rfl, ho0, hb⟩
        refine ⟨_, rfl, ?_⟩
        have n0_ := Aside0.mk (Kd.R_elder' (rP HO_6.out) (Kd.R_base ho0) hb)
        have n1_ := Aside0.mk (Kd.R_below (rP HO_9.out) hb)
        have n2_ := Aside0.mk (Kd.R_elder' (rP HO_10.out) (Kd.R_base ho0) hb)
        have n3_ := Aside0.mk (Kd.R_elder' (rP HO_372001.out) (Kd.R_base ho0) hb)
        have n4_ := Aside0.mk (Kd.R_lower (Kd.R_new' (Kd.R_new' (Kd.R_new' ho0 (Kd.R_lt (rP HO_6.out))) (Kd.R_lt (rP HO_10.out))) (Kd.R_lt (rP HO_372001.out))) (below_size (bW)))
        have n5_ := Aside0.mk (blkB BK353.out hb)
        have n6_ := Aside0.mk (blkB BK371.out hb)
        have n7_ := Aside0.mk (below_step (bW) hb)
        clear HO_6 HO_9 HO_10 HO_372001 BK353 BK371 HB; have HO_6 := n0_; have HO_9 := n1_; have HO_10 := n2_; have HO_372001 := n3_; have HO383 := n4_; have BK353 := n5_; have BK371 := n6_; have HB := n7_; clear n0_ n1_ n2_ n3_ n4_ n5_ n6_ n7_
        (try clear hb)
        (try clear hb2)
        (try clear hk)
        (try clear hi)
        (try clear ho0)
        obtain ⟨Ao57, co57, eo57⟩ := Kd.R_slice HO383.out
        (first | subst eo57 | (injection eo57 with f1_ f2_ f3_; have f4_ := f1_.symm; have f5_ := f3_.symm; clear f1_ f2_ f3_; subst f4_; subst f5_))
        refine hK.out _ _ ⟨(blk_cell BK371.out 0).trans rfl, (blk_cell BK371.out 1).trans rfl, (blk_cell BK353.out 0).trans rfl, (blk_cell BK353.out 1).trans rfl⟩ (fun hHeld => ?_)
        clear hK K
        refine norm_ (a' := ?_) ?_ ?_
        rotate_left
        ·show Act.put _ (some 56) _ = _
         simp only [Act.put, List.setIfInBounds_toArray, List.set_cons_zero, List.set_cons_succ, i64_w, i32_w]
         rfl
        refine one_ (i := 3) (N := some 57) #[true, true, true, true, false] rfl rfl (by kernel_rfl) (by decide) (fun K hK => ?_)
        refine goes_ Tryd.func13 (by kernel_rfl) rfl #[.agg #[.int .i64 t367, .slice Ao34 t368.length co34], .agg #[.int .i64 t380, .slice Ao57 t381.length co57]] (by rfl) rfl rfl (by (try simp only [List.map_toArray, List.map_cons, List.map_nil]); first | done | rfl | (simp only [List.length_drop, List.length_take]; rfl)) ?_
        with_reducible refine (laws_eqAlphabet.calls kj18 t367 _ _ t368 t380 _ _ t381 true _ ?side1 ?side2 ?side3 ?side4 A47.out).mono ?_
        (case side1 => exact cP ((Kd.R_reads' HO_372001.out).2.2))
        (case side2 => exact (Kd.R_reads' HO_372001.out).2.1)
        (case side3 => exact cP ((Kd.R_reads' HO383.out).2.2))
        (case side4 => exact (Kd.R_reads' HO383.out).2.1)
        rintro e w58 ⟨rfl, hb⟩
        refine ⟨_, rfl, ?_⟩
        have n0_ := Aside0.mk (Kd.R_below (rP HO_6.out) hb)
        have n1_ := Aside0.mk (Kd.R_below (rP HO_9.out) hb)
        have n2_ := Aside0.mk (Kd.R_below (rP HO_10.out) hb)
        have n3_ := Aside0.mk (Kd.R_below (rP HO_372001.out) hb)
        have n4_ := Aside0.mk (Kd.R_below (rP HO383.out) hb)
        have n5_ := Aside0.mk (blkB BK353.out hb)
        have n6_ := Aside0.mk (blkB BK371.out hb)
        have n7_ := Aside0.mk (below_step (bW) hb)
        clear HO_6 HO_9 HO_10 HO_372001 HO383 BK353 BK371 HB; have HO_6 := n0_; have HO_9 := n1_; have HO_10 := n2_; have HO_372001 := n3_; have HO383 := n4_; have BK353 := n5_; have BK371 := n6_; have HB := n7_; clear n0_ n1_ n2_ n3_ n4_ n5_ n6_ n7_
        (try clear hb)
        (try clear hb2)
        (try clear hk)
        (try clear hi)
        refine hK.out _ _ ⟨(blk_cell BK371.out 0).trans rfl, (blk_cell BK371.out 1).trans rfl, (blk_cell BK353.out 0).trans rfl, (blk_cell BK353.out 1).trans rfl⟩ (fun hHeld => ?_)
        clear hK K
        refine norm_ (a' := ?_) ?_ ?_
        rotate_left
        ·show Act.put _ (some 57) _ = _
         simp only [Act.put, List.setIfInBounds_toArray, List.set_cons_zero, List.set_cons_succ, i64_w, i32_w]
         rfl
        refine pureS (i := 4) (N := some 58) (by kernel_rfl) ?_
        refine done_ (by kernel_rfl) ?_
        go_upto_region 21 with (first | ((with_reducible refine gate_callee (f := 10) rfl ?_); refine goesS (some 61) Tryd.func10 #[.slice A1 l1.length c1] ?_; (with_reducible refine (laws_toTermS.calls kj18 _ _ l1 t385 _ ?side1 ?side2 A49.out).mono ?_); (case side1 => exact cP (Kd.C_below HR1.out HB.out)); (case side2 => exact HC1.out); rintro e w59 ⟨v386, rfl, ho0, hb⟩; refine ⟨_, rfl, ?_⟩; have n0_ := Aside0.mk (Kd.R_below (rP HO_6.out) hb); have n1_ := Aside0.mk (Kd.R_elder' (rP HO_9.out) (Kd.R_base ho0) hb); have n2_ := Aside0.mk (Kd.R_below (rP HO_10.out) hb); have n3_ := Aside0.mk (Kd.R_below (rP HO_372001.out) hb); have n4_ := Aside0.mk (Kd.R_below (rP HO383.out) hb); have n5_ := Aside0.mk (Kd.R_lower (Kd.R_new' ho0 (Kd.R_lt (rP HO_9.out))) (below_size (bW))); have n6_ := Aside0.mk (blkB BK353.out hb); have n7_ := Aside0.mk (blkB BK371.out hb); have n8_ := Aside0.mk (below_step (bW) hb); clear HO_6 HO_9 HO_10 HO_372001 HO383 BK353 BK371 HB; have HO_6 := n0_; have HO_9 := n1_; have HO_10 := n2_; have HO_372001 := n3_; have HO383 := n4_; have HO387 := n5_; have BK353 := n6_; have BK371 := n7_; have HB := n8_; clear n0_ n1_ n2_ n3_ n4_ n5_ n6_ n7_ n8_; (try clear hb); (try clear hb2); (try clear hk); (try clear hi); (try clear ho0); obtain ⟨Ao60, co60, eo60⟩ := Kd.R_slice HO387.out; subst eo60) | ((with_reducible refine gate_callee (f := 14) rfl ?_); refine goesS (some 62) Tryd.func14 #[.slice Ao37 t372.length co37, .slice Ao60 t385.length co60] ?_; (with_reducible refine (laws_eqTermS.calls kj18 _ _ t372 _ _ t385 true _ ?side1 ?side2 ?side3 ?side4 A50.out).mono ?_); (case side1 => exact cP ((Kd.R_reads' HO_9.out).2.2)); (case side2 => exact (Kd.R_reads' HO_9.out).2.1); (case side3 => exact cP ((Kd.R_reads' HO387.out).2.2)); (case side4 => exact (Kd.R_reads' HO387.out).2.1); rintro e w61 ⟨rfl, hb⟩; refine ⟨_, rfl, ?_⟩; have n0_ := Aside0.mk (Kd.R_below (rP HO_6.out) hb); have n1_ := Aside0.mk (Kd.R_below (rP HO_9.out) hb); have n2_ := Aside0.mk (Kd.R_below (rP HO_10.out) hb); have n3_ := Aside0.mk (Kd.R_below (rP HO_372001.out) hb); have n4_ := Aside0.mk (Kd.R_below (rP HO383.out) hb); have n5_ := Aside0.mk (Kd.R_below (rP HO387.out) hb); have n6_ := Aside0.mk (blkB BK353.out hb); have n7_ := Aside0.mk (blkB BK371.out hb); have n8_ := Aside0.mk (below_step (bW) hb); clear HO_6 HO_9 HO_10 HO_372001 HO383 HO387 BK353 BK371 HB; have HO_6 := n0_; have HO_9 := n1_; have HO_10 := n2_; have HO_372001 := n3_; have HO383 := n4_; have HO387 := n5_; have BK353 := n6_; have BK371 := n7_; have HB := n8_; clear n0_ n1_ n2_ n3_ n4_ n5_ n6_ n7_ n8_; (try clear hb); (try clear hb2); (try clear hk); (try clear hi); have hnb62 := NB371_353.out; have hnc62 := NB353_371.out; obtain ⟨hcz63_0, hcz63_1⟩ := cells2 BK371.out; obtain ⟨hfz63_0, hfz63_1⟩ := frz2 BK371.out) | ((with_reducible refine gate_callee (f := 15) rfl ?_); refine goesS (some 66) Tryd.func15 #[.agg #[.int .i64 t367, .slice Ao34 t368.length co34], .int .i64 1] ?_; (with_reducible refine (laws_markAlphabet.calls kj18 t367 (fun k_ => some k_ = (.slice Ao34 t368.length co34 : Value).ownBlock) (.slice Ao34 t368.length co34) t368 1 t389 t390 w _ ?side1 ?side2 A52.out).mono ?_); (case side1 => repeat (first | (with_reducible first | exact HB.out | apply below_alloc | apply pw_below_drewN | apply below_drew1 | refine below_set ?_ GE353.out | refine below_set ?_ GE371.out) | exact HB.out)); (case side2 => exact Kd.R_tight rfl HO_372001.out); rintro e w64 ⟨rfl, hy0, hb, hkp⟩; refine ⟨_, rfl, ?_⟩; have n0_ := Aside0.mk (Kd.R_mono (ok' := fun k_ => some k_ ≠ (v376 : Value).ownBlock ∧ some k_ ≠ (.slice Ao34 t368.length co34 : Value).ownBlock ∧ some k_ ≠ (.slice Ao57 t381.length co57 : Value).ownBlock) (Kd.R_keptB (HO_6.out) hkp (fun k_ hk_ hs_ => (hk_.1.2) hs_)) (fun k_ hk_ => ⟨hk_.1.1.1, hk_.1.1.2, hk_.1.2⟩)); have n1_ := Aside0.mk (Kd.R_mono (ok' := fun k_ => some k_ ≠ (.slice Ao60 t385.length co60 : Value).ownBlock) (Kd.R_keptB ((Kd.R_apart' HO_9.out (Kd.R_typed HO_372001.out) (by decide))) hkp (fun k_ hk_ hs_ => (hk_.2) hs_)) (fun k_ hk_ => hk_.1.1.2)); have n2_ := Aside0.mk (Kd.R_mono (ok' := fun k_ => some k_ ≠ (v364 : Value).ownBlock ∧ some k_ ≠ (.slice Ao34 t368.length co34 : Value).ownBlock ∧ some k_ ≠ (.slice Ao57 t381.length co57 : Value).ownBlock) (Kd.R_keptB (HO_10.out) hkp (fun k_ hk_ hs_ => (hk_.1.2) hs_)) (fun k_ hk_ => ⟨hk_.1.1.1, hk_.1.1.2, hk_.1.2⟩)); have n3_ := Aside0.mk (Kd.R_reok rfl hy0 (fun k_ e_ => HO_372001.out.1 k_ e_)); have n4_ := Aside0.mk (blk_kept (bP BK353.out) hkp (fun hs_ => (fun e_ => (Kd.R_ne HO_372001.out BK353.out (by decide)) e_) hs_)); have n5_ := Aside0.mk (blk_kept (bP BK371.out) hkp (fun hs_ => (fun e_ => (Kd.R_ne HO_372001.out BK371.out (by decide)) e_) hs_)); have n6_ := Aside0.mk (Kd.R_mono (ok' := fun k_ => some k_ ≠ (v364 : Value).ownBlock ∧ some k_ ≠ (v376 : Value).ownBlock ∧ some k_ ≠ (.slice Ao34 t368.length co34 : Value).ownBlock) (Kd.R_keptB (HO383.out) hkp (fun k_ hk_ hs_ => (hk_.2) hs_)) (fun k_ hk_ => ⟨hk_.1.1.1.2, hk_.1.1.2, hk_.1.2⟩)); have n7_ := Aside0.mk (Kd.R_mono (ok' := fun k_ => some k_ ≠ (.slice Ao37 t372.length co37 : Value).ownBlock) (Kd.R_keptB ((Kd.R_apart' HO387.out (Kd.R_typed HO_372001.out) (by decide))) hkp (fun k_ hk_ hs_ => (hk_.2) hs_)) (fun k_ hk_ => hk_.1.1.2)); have n8_ := Aside0.mk (hb); clear HO_6 HO_9 HO_10 HO_372001 BK353 BK371 HO383 HO387 HB; have HO_6 := n0_; have HO_9 := n1_; have HO_10 := n2_; have HO_372001 := n3_; have BK353 := n4_; have BK371 := n5_; have HO383 := n6_; have HO387 := n7_; have HB := n8_; clear n0_ n1_ n2_ n3_ n4_ n5_ n6_ n7_ n8_; (try clear hb); (try clear hkp); (try clear hy0)) | ((with_reducible refine gate_callee (f := 16) rfl ?_); refine goesS (some 69) Tryd.func16 #[.slice Ao37 t372.length co37, .int .i64 t389] ?_; (with_reducible refine (laws_markTermS.calls kj18 (fun k_ => some k_ = (.slice Ao37 t372.length co37 : Value).ownBlock) (.slice Ao37 t372.length co37) t372 t389 t391 t392 w _ ?side1 ?side2 A53.out).mono ?_); (case side1 => repeat (first | (with_reducible first | exact HB.out | apply below_alloc | apply pw_below_drewN | apply below_drew1 | refine below_set ?_ GE353.out | refine below_set ?_ GE371.out) | exact HB.out)); (case side2 => exact Kd.R_tight rfl HO_9.out); rintro e w65 ⟨rfl, hy0, hb, hkp⟩; refine ⟨_, rfl, ?_⟩; have n0_ := Aside0.mk (Kd.R_mono (ok' := fun k_ => some k_ ≠ (v376 : Value).ownBlock ∧ some k_ ≠ (.slice Ao34 t368.length co34 : Value).ownBlock ∧ some k_ ≠ (.slice Ao57 t381.length co57 : Value).ownBlock) (Kd.R_keptB ((Kd.R_apart' HO_6.out (Kd.R_typed HO_9.out) (by decide))) hkp (fun k_ hk_ hs_ => (hk_.2) hs_)) (fun k_ hk_ => ⟨hk_.1.1.1, hk_.1.1.2.1, hk_.1.1.2.2⟩)); have n1_ := Aside0.mk (Kd.R_reok rfl hy0 (fun k_ e_ => HO_9.out.1 k_ e_)); have n2_ := Aside0.mk (Kd.R_mono (ok' := fun k_ => some k_ ≠ (v364 : Value).ownBlock ∧ some k_ ≠ (.slice Ao34 t368.length co34 : Value).ownBlock ∧ some k_ ≠ (.slice Ao57 t381.length co57 : Value).ownBlock) (Kd.R_keptB ((Kd.R_apart' HO_10.out (Kd.R_typed HO_9.out) (by decide))) hkp (fun k_ hk_ hs_ => (hk_.2) hs_)) (fun k_ hk_ => ⟨hk_.1.1.1, hk_.1.1.2.1, hk_.1.1.2.2⟩)); have n3_ := Aside0.mk (Kd.R_mono (ok' := fun k_ => some k_ ≠ (v364 : Value).ownBlock ∧ some k_ ≠ (v376 : Value).ownBlock ∧ some k_ ≠ (.slice Ao57 t381.length co57 : Value).ownBlock) (Kd.R_keptB ((Kd.R_apart' HO_372001.out (Kd.R_typed HO_9.out) (by decide))) hkp (fun k_ hk_ hs_ => (hk_.2) hs_)) (fun k_ hk_ => ⟨hk_.1.1.1.1, hk_.1.1.1.2, hk_.1.1.2⟩)); have n4_ := Aside0.mk (blk_kept (bP BK353.out) hkp (fun hs_ => (fun e_ => (Kd.R_ne HO_9.out BK353.out (by decide)) e_) hs_)); have n5_ := Aside0.mk (blk_kept (bP BK371.out) hkp (fun hs_ => (fun e_ => (Kd.R_ne HO_9.out BK371.out (by decide)) e_) hs_)); have n6_ := Aside0.mk (Kd.R_mono (ok' := fun k_ => some k_ ≠ (v364 : Value).ownBlock ∧ some k_ ≠ (v376 : Value).ownBlock ∧ some k_ ≠ (.slice Ao34 t368.length co34 : Value).ownBlock) (Kd.R_keptB ((Kd.R_apart' HO383.out (Kd.R_typed HO_9.out) (by decide))) hkp (fun k_ hk_ hs_ => (hk_.2) hs_)) (fun k_ hk_ => ⟨hk_.1.1.1, hk_.1.1.2.1, hk_.1.1.2.2⟩)); have n7_ := Aside0.mk (Kd.R_mono (ok' := fun k_ => some k_ ≠ (.slice Ao37 t372.length co37 : Value).ownBlock) (Kd.R_keptB (HO387.out) hkp (fun k_ hk_ hs_ => (hk_) hs_)) (fun k_ hk_ => hk_.1)); have n8_ := Aside0.mk (hb); clear HO_6 HO_9 HO_10 HO_372001 BK353 BK371 HO383 HO387 HB; have HO_6 := n0_; have HO_9 := n1_; have HO_10 := n2_; have HO_372001 := n3_; have BK353 := n4_; have BK371 := n5_; have HO383 := n6_; have HO387 := n7_; have HB := n8_; clear n0_ n1_ n2_ n3_ n4_ n5_ n6_ n7_ n8_; (try clear hb); (try clear hkp); (try clear hy0)))
        (try simp only [Act.put, List.setIfInBounds_toArray, List.set_cons_zero, List.set_cons_succ])
        go_cut [82] (fun v82 wc => ∃ (kq : Nat) (x82_53 : Bool), v82 = .bool x82_53 ∧ Aside0 (laws_FnExactContentsOf.j1 kq l1 t363 t366 t375 x82_53 a0_0 l0_1 = some r) ∧ Aside0 (kq ≤ kj18) ∧ Aside0 (Kd.R (Kd.int .i64) 2 wc w.heap.size (fun k_ => some k_ ≠ (v376 : Value).ownBlock ∧ some k_ ≠ ((.slice Ao34 t368.length co34) : Value).ownBlock) v364 t363) ∧ Aside0 (Kd.R (Kd.int .i64) 2 wc w.heap.size (fun k_ => some k_ ≠ (v364 : Value).ownBlock ∧ some k_ ≠ ((.slice Ao34 t368.length co34) : Value).ownBlock) v376 t375) ∧ Aside0 (Kd.R (Kd.int .i64) 2 wc w.heap.size (fun k_ => some k_ ≠ (v364 : Value).ownBlock ∧ some k_ ≠ (v376 : Value).ownBlock) (.slice Ao34 t368.length co34) t390) ∧ Aside0 (wc.heap[gb353]? = some (.cells #[.int .i64 a0_0, (.slice A0_1 l0_1.length c0_1)] 24 (0, 0))) ∧ Aside0 (wc.heap[gb371]? = some (.cells #[.int .i64 t367, (.slice Ao34 t368.length co34)] 30 (0, 0))) ∧ Aside0 (Below w.heap.size w wc))
        case first =>
         have H := HC54.out
         clear HC54
         by_cases c66 : t391 < 0
         ·rw [if_pos c66] at H
          have c66b0 : decide (t391 < 0) = true := decide_eq_true c66
          clear c66
          (first | rw [c66b0] | (simp only [i64_w, i32_w]; rw [c66b0]) | skip)
          have H' := Aside0.mk H
          clear H
          go_wp2
          go_meet
          case rel => exact ⟨_, (true), (eW), H', ⟨by have := HJ18.out; first | omega | exact Nat.le_refl _⟩, ⟨by (with_reducible repeat (first | apply Kd.R_alloc | apply Kd.R_drewN | apply Kd.R_drew)); exact Kd.R_mono HO_6.out (fun _ hk => ⟨hk.1, hk.2.1⟩)⟩, ⟨by (with_reducible repeat (first | apply Kd.R_alloc | apply Kd.R_drewN | apply Kd.R_drew)); exact Kd.R_mono HO_10.out (fun _ hk => ⟨hk.1, hk.2.1⟩)⟩, ⟨by (with_reducible repeat (first | apply Kd.R_alloc | apply Kd.R_drewN | apply Kd.R_drew)); exact Kd.R_mono HO_372001.out (fun _ hk => ⟨hk.1, hk.2.1⟩)⟩, ⟨(bP BK353.out)⟩, ⟨(bP BK371.out)⟩, ⟨bW⟩⟩
         ·rw [if_neg c66] at H
          have c66b0 : decide (t391 < 0) = false := decide_eq_false c66
          clear c66
          (first | rw [c66b0] | (simp only [i64_w, i32_w]; rw [c66b0]) | skip)
          replace H := Option.bind_eq_some_iff.mp H
          obtain ⟨t393, A670, H⟩ := H
          replace H : (if t393 = true then (laws_FnExactContentsOf.j1 kj18 l1 t363 t366 t375 (t378 != t366) a0_0 l0_1) else (laws_FnExactContentsOf.j1 kj18 l1 t363 t366 t375 true a0_0 l0_1)) = some r := H
          have A67 := Aside0.mk A670
          clear A670
          by_cases c68 : t393 = true
          ·subst c68
           have H1 : (laws_FnExactContentsOf.j1 kj18 l1 t363 t366 t375 (t378 != t366) a0_0 l0_1) = some r := by rw [if_pos rfl] at H; exact H
           clear H
           have H := H1
           clear H1
           have H' := Aside0.mk H
           clear H
           obtain ⟨Ao69, co69, eo69⟩ := Kd.R_slice HO_10.out
           subst eo69
           obtain ⟨Ao70, co70, eo70⟩ := Kd.R_slice HO_6.out
           subst eo70
           go_wp2_with (first | (go_at_call 12; (with_reducible refine (laws_eqInt64S.calls kj18 _ _ t375 _ _ t363 true _ ?side1 ?side2 ?side3 ?side4 A67.out).mono ?_); (case side1 => exact cP ((Kd.R_reads' HO_10.out).2.2)); (case side2 => exact (Kd.R_reads' HO_10.out).2.1); (case side3 => exact cP ((Kd.R_reads' HO_6.out).2.2)); (case side4 => exact (Kd.R_reads' HO_6.out).2.1); rintro e w' ⟨rfl, ⟨nd, rfl⟩⟩))
           go_meet
           case rel => exact ⟨_, ((t378 != t366)), (eW), H', ⟨by have := HJ18.out; first | omega | exact Nat.le_refl _⟩, ⟨by (with_reducible repeat (first | apply Kd.R_alloc | apply Kd.R_drewN | apply Kd.R_drew)); exact Kd.R_mono HO_6.out (fun _ hk => ⟨hk.1, hk.2.1⟩)⟩, ⟨by (with_reducible repeat (first | apply Kd.R_alloc | apply Kd.R_drewN | apply Kd.R_drew)); exact Kd.R_mono HO_10.out (fun _ hk => ⟨hk.1, hk.2.1⟩)⟩, ⟨by (with_reducible repeat (first | apply Kd.R_alloc | apply Kd.R_drewN | apply Kd.R_drew)); exact Kd.R_mono HO_372001.out (fun _ hk => ⟨hk.1, hk.2.1⟩)⟩, ⟨(bP BK353.out)⟩, ⟨(bP BK371.out)⟩, ⟨bW⟩⟩
          ·replace c68 := Bool.eq_false_iff.mpr c68
           subst c68
           have H1 : (laws_FnExactContentsOf.j1 kj18 l1 t363 t366 t375 true a0_0 l0_1) = some r := by rw [if_neg (show ¬ (false = true) by decide)] at H; exact H
           clear H
           have H := H1
           clear H1
           have H' := Aside0.mk H
           clear H
           obtain ⟨Ao71, co71, eo71⟩ := Kd.R_slice HO_10.out
           subst eo71
           obtain ⟨Ao72, co72, eo72⟩ := Kd.R_slice HO_6.out
           subst eo72
           go_wp2_with (first | (go_at_call 12; (with_reducible refine (laws_eqInt64S.calls kj18 _ _ t375 _ _ t363 false _ ?side1 ?side2 ?side3 ?side4 A67.out).mono ?_); (case side1 => exact cP ((Kd.R_reads' HO_10.out).2.2)); (case side2 => exact (Kd.R_reads' HO_10.out).2.1); (case side3 => exact cP ((Kd.R_reads' HO_6.out).2.2)); (case side4 => exact (Kd.R_reads' HO_6.out).2.1); rintro e w' ⟨rfl, ⟨nd, rfl⟩⟩))
           go_meet
           case rel => exact ⟨_, (true), (eW), H', ⟨by have := HJ18.out; first | omega | exact Nat.le_refl _⟩, ⟨by (with_reducible repeat (first | apply Kd.R_alloc | apply Kd.R_drewN | apply Kd.R_drew)); exact Kd.R_mono HO_6.out (fun _ hk => ⟨hk.1, hk.2.1⟩)⟩, ⟨by (with_reducible repeat (first | apply Kd.R_alloc | apply Kd.R_drewN | apply Kd.R_drew)); exact Kd.R_mono HO_10.out (fun _ hk => ⟨hk.1, hk.2.1⟩)⟩, ⟨by (with_reducible repeat (first | apply Kd.R_alloc | apply Kd.R_drewN | apply Kd.R_drew)); exact Kd.R_mono HO_372001.out (fun _ hk => ⟨hk.1, hk.2.1⟩)⟩, ⟨(bP BK353.out)⟩, ⟨(bP BK371.out)⟩, ⟨bW⟩⟩
        case rest =>
         clear HC54
         try clear c1
         try clear p2
         try clear c3
         try clear c4
         try clear c4b0
         try clear c5
         try clear c6
         try clear c7
         try clear c8
         try clear c9
         try clear c9b0
         try clear c10
         try clear c11
         try clear c12
         try clear c13
         try clear c14
         try clear c15
         try clear c16
         try clear c32
         try clear c40
         try clear c45
         try clear c48
         try clear c51
         try clear c62
         try clear c66
         try clear c66b0
         try clear c68
         try clear hcz11_0
         try clear hcz11_1
         try clear hcz21_0
         try clear hcz21_1
         try clear hcz23_0
         try clear hcz23_1
         try clear hcz29_0
         try clear hcz29_1
         try clear hcz33_0
         try clear hcz33_1
         try clear hcz36_0
         try clear hcz36_1
         try clear hcz63_0
         try clear hcz63_1
         try clear hcz6_0
         try clear hcz6_1
         try clear hfz11_0
         try clear hfz11_1
         try clear hfz21_0
         try clear hfz21_1
         try clear hfz23_0
         try clear hfz23_1
         try clear hfz29_0
         try clear hfz29_1
         try clear hfz33_0
         try clear hfz33_1
         try clear hfz36_0
         try clear hfz36_1
         try clear hfz63_0
         try clear hfz63_1
         try clear hfz6_0
         try clear hfz6_1
         try clear p2
         obtain ⟨kq, x82_53, rfl, HA, HJ53, HO_6, HO_10, HO_372001, BK353, BK371, HB⟩ := hcut
         have hl372001_53 := (Kd.R_reads' HO_372001.out).1
         rw [hl372001_53] at HO_372001
         (try simp only [hl372001_53])
         (try simp only [hl372001_53] at BK353)
         (try simp only [hl372001_53] at BK371)
         (try simp only [hl372001_53] at HO_6)
         (try simp only [hl372001_53] at HO_10)
         cases kq with
         | zero => exact absurd HA.out (by simp [laws_FnExactContentsOf.j1])
         | succ kj53 =>
          have H := HA.out
          clear HA
          simp only [laws_FnExactContentsOf.j1] at H
          by_cases c73 : x82_53 = true
          ·subst c73
           have H1 : (some false) = some r := by rw [if_pos rfl] at H; exact H
           clear H
           have H := H1
           clear H1
           exact absurd (Option.some.inj H) (by rw [HTr_.out]; decide)
          ·replace c73 := Bool.eq_false_iff.mpr c73
           subst c73
           have H1 : ((laws_markInt64S.f kj53 t375 1).bind fun bt394 => ((laws_heldInt64S.f kj53 bt394.2 1).bind fun t396 => (if t396 < 0 then (some false) else (if t396 = bt394.1 then ((laws_toAlphabet.f kj53 a0_0 l0_1).bind fun bt397 => ((laws_toTermS.f kj53 l1).bind fun t401 => ((impl_ContentsOf.f kj53 bt397.1 bt397.2 t401).bind fun bt404 => ((laws_eqInt64S.f kj53 bt404.1 t363).bind fun t408 => (if t408 = true then (laws_FnExactContentsOf.j2 kj53 bt394.2 bt394.1 (bt404.2 != t366)) else (laws_FnExactContentsOf.j2 kj53 bt394.2 bt394.1 true)))))) else (some false))))) = some r := by rw [if_neg (show ¬ (false = true) by decide)] at H; exact H
           clear H
           have H := H1
           clear H1
           replace H := Option.bind_eq_some_iff.mp H
           obtain ⟨⟨t394, t395⟩, A740, H⟩ := H
           replace H : ((laws_heldInt64S.f kj53 t395 1).bind fun t396 => (if t396 < 0 then (some false) else (if t396 = t394 then ((laws_toAlphabet.f kj53 a0_0 l0_1).bind fun bt397 => ((laws_toTermS.f kj53 l1).bind fun t401 => ((impl_ContentsOf.f kj53 bt397.1 bt397.2 t401).bind fun bt404 => ((laws_eqInt64S.f kj53 bt404.1 t363).bind fun t408 => (if t408 = true then (laws_FnExactContentsOf.j2 kj53 t395 t394 (bt404.2 != t366)) else (laws_FnExactContentsOf.j2 kj53 t395 t394 true)))))) else (some false)))) = some r := H
           have A74 := Aside0.mk A740
           clear A740
           replace H := Option.bind_eq_some_iff.mp H
           obtain ⟨t396, A750, H⟩ := H
           replace H : (if t396 < 0 then (some false) else (if t396 = t394 then ((laws_toAlphabet.f kj53 a0_0 l0_1).bind fun bt397 => ((laws_toTermS.f kj53 l1).bind fun t401 => ((impl_ContentsOf.f kj53 bt397.1 bt397.2 t401).bind fun bt404 => ((laws_eqInt64S.f kj53 bt404.1 t363).bind fun t408 => (if t408 = true then (laws_FnExactContentsOf.j2 kj53 t395 t394 (bt404.2 != t366)) else (laws_FnExactContentsOf.j2 kj53 t395 t394 true)))))) else (some false))) = some r := H
           have A75 := Aside0.mk A750
           clear A750
           by_cases c76 : t396 < 0
           ·rw [if_pos c76] at H
            have c76b0 : decide (t396 < 0) = true := decide_eq_true c76
            clear c76
            exact absurd (Option.some.inj H) (by rw [HTr_.out]; decide)
           ·rw [if_neg c76] at H
            have c76b0 : decide (t396 < 0) = false := decide_eq_false c76
            clear c76
            by_cases c77 : t396 = t394
            ·rw [if_pos c77] at H
             have c77b0 : (t396 == t394) = true := beq_iff_eq.mpr c77
             have c77b1 : (t396 != t394) = false := bne_eq_false_iff_eq.mpr c77
             clear c77
             replace H := Option.bind_eq_some_iff.mp H
             obtain ⟨⟨t397, t398⟩, A780, H⟩ := H
             replace H : ((laws_toTermS.f kj53 l1).bind fun t401 => ((impl_ContentsOf.f kj53 t397 t398 t401).bind fun bt404 => ((laws_eqInt64S.f kj53 bt404.1 t363).bind fun t408 => (if t408 = true then (laws_FnExactContentsOf.j2 kj53 t395 t394 (bt404.2 != t366)) else (laws_FnExactContentsOf.j2 kj53 t395 t394 true))))) = some r := H
             have A78 := Aside0.mk A780
             clear A780
             replace H := Option.bind_eq_some_iff.mp H
             obtain ⟨t401, A790, H⟩ := H
             replace H : ((impl_ContentsOf.f kj53 t397 t398 t401).bind fun bt404 => ((laws_eqInt64S.f kj53 bt404.1 t363).bind fun t408 => (if t408 = true then (laws_FnExactContentsOf.j2 kj53 t395 t394 (bt404.2 != t366)) else (laws_FnExactContentsOf.j2 kj53 t395 t394 true)))) = some r := H
             have A79 := Aside0.mk A790
             clear A790
             replace H := Option.bind_eq_some_iff.mp H
             obtain ⟨⟨t404, t407⟩, A800, H⟩ := H
             replace H : ((laws_eqInt64S.f kj53 t404 t363).bind fun t408 => (if t408 = true then (laws_FnExactContentsOf.j2 kj53 t395 t394 (t407 != t366)) else (laws_FnExactContentsOf.j2 kj53 t395 t394 true))) = some r := H
             have A80 := Aside0.mk A800
             clear A800
             have HC81 := Aside0.mk H
             clear H
             obtain ⟨Ao82, co82, eo82⟩ := Kd.R_slice HO_10.out
             subst eo82
             go_upto_region 32 with (first | ((with_reducible refine gate_callee (f := 17) rfl ?_); refine goesS (some 85) Tryd.func17 #[.slice Ao82 t375.length co82, .int .i64 1] ?_; (with_reducible refine (laws_markInt64S.calls kj53 (fun k_ => some k_ = (.slice Ao82 t375.length co82 : Value).ownBlock) (.slice Ao82 t375.length co82) t375 1 t394 t395 w _ ?side1 ?side2 A74.out).mono ?_); (case side1 => repeat (first | (with_reducible first | exact HB.out | apply below_alloc | apply pw_below_drewN | apply below_drew1 | refine below_set ?_ GE353.out | refine below_set ?_ GE371.out) | exact HB.out)); (case side2 => exact Kd.R_tight rfl HO_10.out); rintro e w83 ⟨rfl, hy0, hb, hkp⟩; refine ⟨_, rfl, ?_⟩; have n0_ := Aside0.mk (Kd.R_mono (ok' := fun k_ => some k_ ≠ (.slice Ao82 t375.length co82 : Value).ownBlock ∧ some k_ ≠ (.slice Ao34 t390.length co34 : Value).ownBlock) (Kd.R_keptB (HO_6.out) hkp (fun k_ hk_ hs_ => (hk_.1) hs_)) (fun k_ hk_ => ⟨hk_.1.1, hk_.1.2⟩)); have n1_ := Aside0.mk (Kd.R_reok rfl hy0 (fun k_ e_ => HO_10.out.1 k_ e_)); have n2_ := Aside0.mk (Kd.R_mono (ok' := fun k_ => some k_ ≠ (v364 : Value).ownBlock ∧ some k_ ≠ (.slice Ao82 t375.length co82 : Value).ownBlock) (Kd.R_keptB (HO_372001.out) hkp (fun k_ hk_ hs_ => (hk_.2) hs_)) (fun k_ hk_ => ⟨hk_.1.1, hk_.1.2⟩)); have n3_ := Aside0.mk (blk_kept (bP BK353.out) hkp (fun hs_ => (fun e_ => (Kd.R_ne HO_10.out BK353.out (by decide)) e_) hs_)); have n4_ := Aside0.mk (blk_kept (bP BK371.out) hkp (fun hs_ => (fun e_ => (Kd.R_ne HO_10.out BK371.out (by decide)) e_) hs_)); have n5_ := Aside0.mk (hb); clear HO_6 HO_10 HO_372001 BK353 BK371 HB; have HO_6 := n0_; have HO_10 := n1_; have HO_372001 := n2_; have BK353 := n3_; have BK371 := n4_; have HB := n5_; clear n0_ n1_ n2_ n3_ n4_ n5_; (try clear hb); (try clear hkp); (try clear hy0)) | ((with_reducible refine gate_callee (f := 18) rfl ?_); refine goesL_ (some 88) rfl rfl Tryd.func18 (by kernel_rfl) rfl #[.slice Ao82 t395.length co82, .int .i64 1] rfl (by (try simp only [List.map_toArray, List.map_cons, List.map_nil]); first | done | (rw [show t395.length = t375.length from (Kd.R_reads' HO_10.out).1.symm] <;> rfl) | rfl | (simp only [List.length_drop, List.length_take]; rfl)) ?_; (with_reducible refine (laws_heldInt64S.calls kj53 _ _ t395 1 t396 _ ?side1 ?side2 A75.out).mono ?_); (case side1 => exact cP ((Kd.R_reads' HO_10.out).2.2)); (case side2 => rw [show t395.length = t375.length from (Kd.R_reads' HO_10.out).1.symm]; exact (Kd.R_reads' HO_10.out).2.1); rintro e w' ⟨rfl, ⟨nd, rfl⟩⟩; refine ⟨_, rfl, ?_⟩; have hnb84 := NB353_371.out; have hnc84 := NB371_353.out; obtain ⟨hcz85_0, hcz85_1⟩ := cells2 BK353.out; obtain ⟨hfz85_0, hfz85_1⟩ := frz2 BK353.out) | ((with_reducible refine gate_callee (f := 9) rfl ?_); refine goesS (some 96) Tryd.func9 #[.agg #[.int .i64 a0_0, .slice A0_1 l0_1.length c0_1]] ?_; (with_reducible refine (laws_toAlphabet.calls kj53 a0_0 _ _ l0_1 t397 t398 _ ?side1 ?side2 A78.out).mono ?_); (case side1 => exact cP (Kd.C_below HR0_1.out (bW))); (case side2 => exact HC0_1.out); rintro e w86 ⟨v399, rfl, ho0, hb⟩; refine ⟨_, rfl, ?_⟩; have n0_ := Aside0.mk (Kd.R_elder' (rP HO_6.out) (Kd.R_base ho0) hb); have n1_ := Aside0.mk (Kd.R_elder' (rP HO_10.out) (Kd.R_base ho0) hb); have n2_ := Aside0.mk (Kd.R_elder' (rP HO_372001.out) (Kd.R_base ho0) hb); have n3_ := Aside0.mk (Kd.R_lower (Kd.R_new' (Kd.R_new' (Kd.R_new' ho0 (Kd.R_lt (rP HO_6.out))) (Kd.R_lt (rP HO_10.out))) (Kd.R_lt (rP HO_372001.out))) (below_size (bW))); have n4_ := Aside0.mk (blkB BK353.out hb); have n5_ := Aside0.mk (blkB BK371.out hb); have n6_ := Aside0.mk (below_step (bW) hb); clear HO_6 HO_10 HO_372001 BK353 BK371 HB; have HO_6 := n0_; have HO_10 := n1_; have HO_372001 := n2_; have HO400 := n3_; have BK353 := n4_; have BK371 := n5_; have HB := n6_; clear n0_ n1_ n2_ n3_ n4_ n5_ n6_; (try clear hb); (try clear hb2); (try clear hk); (try clear hi); (try clear ho0)) | ((with_reducible refine gate_callee (f := 10) rfl ?_); refine goesS (some 98) Tryd.func10 #[.slice A1 l1.length c1] ?_; (with_reducible refine (laws_toTermS.calls kj53 _ _ l1 t401 _ ?side1 ?side2 A79.out).mono ?_); (case side1 => exact cP (Kd.C_below HR1.out HB.out)); (case side2 => exact HC1.out); rintro e w87 ⟨v402, rfl, ho0, hb⟩; refine ⟨_, rfl, ?_⟩; have n0_ := Aside0.mk (Kd.R_below (rP HO_6.out) hb); have n1_ := Aside0.mk (Kd.R_below (rP HO_10.out) hb); have n2_ := Aside0.mk (Kd.R_below (rP HO_372001.out) hb); have n3_ := Aside0.mk (Kd.R_below (rP HO400.out) hb); have n4_ := Aside0.mk (Kd.R_lower ho0 (below_size (bW))); have n5_ := Aside0.mk (blkB BK353.out hb); have n6_ := Aside0.mk (blkB BK371.out hb); have n7_ := Aside0.mk (below_step (bW) hb); clear HO_6 HO_10 HO_372001 HO400 BK353 BK371 HB; have HO_6 := n0_; have HO_10 := n1_; have HO_372001 := n2_; have HO400 := n3_; have HO403 := n4_; have BK353 := n5_; have BK371 := n6_; have HB := n7_; clear n0_ n1_ n2_ n3_ n4_ n5_ n6_ n7_; (try clear hb); (try clear hb2); (try clear hk); (try clear hi); (try clear ho0); obtain ⟨Ao88, co88, eo88⟩ := Kd.R_slice HO400.out; subst eo88; obtain ⟨Ao89, co89, eo89⟩ := Kd.R_slice HO403.out; subst eo89) | ((with_reducible refine gate_callee (f := 11) rfl ?_); refine goesS (some 99) Tryd.func11 #[.agg #[.int .i64 t397, .slice Ao88 t398.length co88], .slice Ao89 t401.length co89] ?_; (with_reducible refine (impl_ContentsOf.calls kj53 t397 _ _ t398 _ _ t401 t404 t407 _ ?side1 ?side2 ?side3 ?side4 A80.out (tabW HTab.out)).mono ?_); (case side1 => exact cP ((Kd.R_reads' HO400.out).2.2)); (case side2 => exact (Kd.R_reads' HO400.out).2.1); (case side3 => exact cP ((Kd.R_reads' HO403.out).2.2)); (case side4 => exact (Kd.R_reads' HO403.out).2.1); rintro e w90 ⟨v405, rfl, ho0, hb⟩; refine ⟨_, rfl, ?_⟩; have n0_ := Aside0.mk (Kd.R_elder' (rP HO_6.out) (Kd.R_base ho0) hb); have n1_ := Aside0.mk (Kd.R_elder' (rP HO_10.out) (Kd.R_base ho0) hb); have n2_ := Aside0.mk (Kd.R_elder' (rP HO_372001.out) (Kd.R_base ho0) hb); have n3_ := Aside0.mk (Kd.R_elder' (rP HO400.out) (Kd.R_base ho0) hb); have n4_ := Aside0.mk (Kd.R_below (rP HO403.out) hb); have n5_ := Aside0.mk (Kd.R_lower (Kd.R_new' (Kd.R_new' (Kd.R_new' (Kd.R_new' ho0 (Kd.R_lt (rP HO_6.out))) (Kd.R_lt (rP HO_10.out))) (Kd.R_lt (rP HO_372001.out))) (Kd.R_lt (rP HO400.out))) (below_size (bW))); have n6_ := Aside0.mk (blkB BK353.out hb); have n7_ := Aside0.mk (blkB BK371.out hb); have n8_ := Aside0.mk (below_step (bW) hb); clear HO_6 HO_10 HO_372001 HO400 HO403 BK353 BK371 HB; have HO_6 := n0_; have HO_10 := n1_; have HO_372001 := n2_; have HO400 := n3_; have HO403 := n4_; have HO406 := n5_; have BK353 := n6_; have BK371 := n7_; have HB := n8_; clear n0_ n1_ n2_ n3_ n4_ n5_ n6_ n7_ n8_; (try clear hb); (try clear hb2); (try clear hk); (try clear hi); (try clear ho0)))
             (try simp only [Act.put, List.setIfInBounds_toArray, List.set_cons_zero, List.set_cons_succ])
             go_cut [110] (fun v110 wc => ∃ (kq : Nat) (x110_80 : Bool), v110 = .bool x110_80 ∧ Aside0 (laws_FnExactContentsOf.j2 kq t395 t394 x110_80 = some r) ∧ Aside0 (kq ≤ kj53) ∧ Aside0 (Kd.R (Kd.int .i64) 2 wc w.heap.size (fun k_ => some k_ ≠ ((.slice Ao34 t390.length co34) : Value).ownBlock) (.slice Ao82 t375.length co82) t395) ∧ Aside0 (Kd.R (Kd.int .i64) 2 wc w.heap.size (fun k_ => some k_ ≠ ((.slice Ao82 t375.length co82) : Value).ownBlock) (.slice Ao34 t390.length co34) t390) ∧ Aside0 (wc.heap[gb353]? = some (.cells #[.int .i64 a0_0, (.slice A0_1 l0_1.length c0_1)] 24 (0, 0))) ∧ Aside0 (wc.heap[gb371]? = some (.cells #[.int .i64 t367, (.slice Ao34 t390.length co34)] 30 (0, 0))) ∧ Aside0 (Below w.heap.size w wc))
             case first =>
              have H := HC81.out
              clear HC81
              replace H := Option.bind_eq_some_iff.mp H
              obtain ⟨t408, A910, H⟩ := H
              replace H : (if t408 = true then (laws_FnExactContentsOf.j2 kj53 t395 t394 (t407 != t366)) else (laws_FnExactContentsOf.j2 kj53 t395 t394 true)) = some r := H
              have A91 := Aside0.mk A910
              clear A910
              by_cases c92 : t408 = true
              ·subst c92
               have H1 : (laws_FnExactContentsOf.j2 kj53 t395 t394 (t407 != t366)) = some r := by rw [if_pos rfl] at H; exact H
               clear H
               have H := H1
               clear H1
               have H' := Aside0.mk H
               clear H
               obtain ⟨Ao93, co93, eo93⟩ := Kd.R_slice HO406.out
               subst eo93
               obtain ⟨Ao94, co94, eo94⟩ := Kd.R_slice HO_6.out
               subst eo94
               go_wp2_with (first | ((with_reducible refine gate_callee (f := 12) rfl ?_); refine goesS (some 104) Tryd.func12 #[.slice Ao93 t404.length co93, .slice Ao94 t363.length co94] ?_; (with_reducible refine (laws_eqInt64S.calls kj53 _ _ t404 _ _ t363 true _ ?side1 ?side2 ?side3 ?side4 A91.out).mono ?_); (case side1 => exact cP ((Kd.R_reads' HO406.out).2.2)); (case side2 => exact (Kd.R_reads' HO406.out).2.1); (case side3 => exact cP ((Kd.R_reads' HO_6.out).2.2)); (case side4 => exact (Kd.R_reads' HO_6.out).2.1); rintro e w' ⟨rfl, ⟨nd, rfl⟩⟩; refine ⟨_, rfl, ?_⟩))
               go_meet
               case rel => exact ⟨_, ((t407 != t366)), (eW), H', ⟨by have := HJ18.out; have := HJ53.out; first | omega | exact Nat.le_refl _⟩, ⟨by (try simp only [hl372001_53]); (with_reducible repeat (first | apply Kd.R_alloc | apply Kd.R_drewN | apply Kd.R_drew)); exact Kd.R_mono HO_10.out (fun _ hk => hk.1.1.2)⟩, ⟨by (try simp only [hl372001_53]); (with_reducible repeat (first | apply Kd.R_alloc | apply Kd.R_drewN | apply Kd.R_drew)); exact Kd.R_mono HO_372001.out (fun _ hk => hk.1.1.2)⟩, ⟨by (try simp only [hl372001_53]); exact bP BK353.out⟩, ⟨by (try simp only [hl372001_53]); exact bP BK371.out⟩, ⟨bW⟩⟩
              ·replace c92 := Bool.eq_false_iff.mpr c92
               subst c92
               have H1 : (laws_FnExactContentsOf.j2 kj53 t395 t394 true) = some r := by rw [if_neg (show ¬ (false = true) by decide)] at H; exact H
               clear H
               have H := H1
               clear H1
               have H' := Aside0.mk H
               clear H
               obtain ⟨Ao95, co95, eo95⟩ := Kd.R_slice HO406.out
               subst eo95
               obtain ⟨Ao96, co96, eo96⟩ := Kd.R_slice HO_6.out
               subst eo96
               go_wp2_with (first | ((with_reducible refine gate_callee (f := 12) rfl ?_); refine goesS (some 104) Tryd.func12 #[.slice Ao95 t404.length co95, .slice Ao96 t363.length co96] ?_; (with_reducible refine (laws_eqInt64S.calls kj53 _ _ t404 _ _ t363 false _ ?side1 ?side2 ?side3 ?side4 A91.out).mono ?_); (case side1 => exact cP ((Kd.R_reads' HO406.out).2.2)); (case side2 => exact (Kd.R_reads' HO406.out).2.1); (case side3 => exact cP ((Kd.R_reads' HO_6.out).2.2)); (case side4 => exact (Kd.R_reads' HO_6.out).2.1); rintro e w' ⟨rfl, ⟨nd, rfl⟩⟩; refine ⟨_, rfl, ?_⟩))
               go_meet
               case rel => exact ⟨_, (true), (eW), H', ⟨by have := HJ18.out; have := HJ53.out; first | omega | exact Nat.le_refl _⟩, ⟨by (try simp only [hl372001_53]); (with_reducible repeat (first | apply Kd.R_alloc | apply Kd.R_drewN | apply Kd.R_drew)); exact Kd.R_mono HO_10.out (fun _ hk => hk.1.1.2)⟩, ⟨by (try simp only [hl372001_53]); (with_reducible repeat (first | apply Kd.R_alloc | apply Kd.R_drewN | apply Kd.R_drew)); exact Kd.R_mono HO_372001.out (fun _ hk => hk.1.1.2)⟩, ⟨by (try simp only [hl372001_53]); exact bP BK353.out⟩, ⟨by (try simp only [hl372001_53]); exact bP BK371.out⟩, ⟨bW⟩⟩
             case rest =>
              clear HC81
              try clear c1
              try clear p2
              try clear c3
              try clear c4
              try clear c4b0
              try clear c5
              try clear c6
              try clear c7
              try clear c8
              try clear c9
              try clear c9b0
              try clear c10
              try clear c11
              try clear c12
              try clear c13
              try clear c14
              try clear c15
              try clear c16
              try clear c17
              try clear c18
              try clear c32
              try clear c40
              try clear c45
              try clear c48
              try clear c51
              try clear c62
              try clear c66
              try clear c66b0
              try clear c68
              try clear c73
              try clear c76
              try clear c76b0
              try clear c77
              try clear c77b0
              try clear c77b1
              try clear c84
              try clear c92
              try clear hcz11_0
              try clear hcz11_1
              try clear hcz21_0
              try clear hcz21_1
              try clear hcz23_0
              try clear hcz23_1
              try clear hcz29_0
              try clear hcz29_1
              try clear hcz33_0
              try clear hcz33_1
              try clear hcz36_0
              try clear hcz36_1
              try clear hcz63_0
              try clear hcz63_1
              try clear hcz6_0
              try clear hcz6_1
              try clear hcz85_0
              try clear hcz85_1
              try clear hfz11_0
              try clear hfz11_1
              try clear hfz21_0
              try clear hfz21_1
              try clear hfz23_0
              try clear hfz23_1
              try clear hfz29_0
              try clear hfz29_1
              try clear hfz33_0
              try clear hfz33_1
              try clear hfz36_0
              try clear hfz36_1
              try clear hfz63_0
              try clear hfz63_1
              try clear hfz6_0
              try clear hfz6_1
              try clear hfz85_0
              try clear hfz85_1
              try clear p2
              obtain ⟨kq, x110_80, rfl, HA, HJ80, HO_10, HO_372001, BK353, BK371, HB⟩ := hcut
              have hl10_80 := (Kd.R_reads' HO_10.out).1
              rw [hl10_80] at HO_10
              (try simp only [hl10_80])
              (try simp only [hl10_80] at BK353)
              (try simp only [hl10_80] at BK371)
              (try simp only [hl10_80] at HO_372001)
              cases kq with
              | zero => exact absurd HA.out (by simp [laws_FnExactContentsOf.j2])
              | succ kj80 =>
               have H := HA.out
               clear HA
               simp only [laws_FnExactContentsOf.j2] at H
               by_cases c97 : x110_80 = true
               ·subst c97
                have H1 : (some false) = some r := by rw [if_pos rfl] at H; exact H
                clear H
                have H := H1
                clear H1
                exact absurd (Option.some.inj H) (by rw [HTr_.out]; decide)
               ·replace c97 := Bool.eq_false_iff.mpr c97
                subst c97
                have H1 : ((laws_heldInt64S.f kj80 t395 1).bind fun t409 => (if t409 < 0 then (some false) else (if t409 = t394 then (some true) else (some false)))) = some r := by rw [if_neg (show ¬ (false = true) by decide)] at H; exact H
                clear H
                have H := H1
                clear H1
                replace H := Option.bind_eq_some_iff.mp H
                obtain ⟨t409, A980, H⟩ := H
                replace H : (if t409 < 0 then (some false) else (if t409 = t394 then (some true) else (some false))) = some r := H
                have A98 := Aside0.mk A980
                clear A980
                by_cases c99 : t409 < 0
                ·rw [if_pos c99] at H
                 have c99b0 : decide (t409 < 0) = true := decide_eq_true c99
                 clear c99
                 exact absurd (Option.some.inj H) (by rw [HTr_.out]; decide)
                ·rw [if_neg c99] at H
                 have c99b0 : decide (t409 < 0) = false := decide_eq_false c99
                 clear c99
                 by_cases c100 : t409 = t394
                 ·rw [if_pos c100] at H
                  have c100b0 : (t409 == t394) = true := beq_iff_eq.mpr c100
                  have c100b1 : (t409 != t394) = false := bne_eq_false_iff_eq.mpr c100
                  clear c100
                  obtain rfl := Option.some.inj H
                  go_wp2_with (first | ((with_reducible refine gate_callee (f := 18) rfl ?_); refine goesS (some 113) Tryd.func18 #[.slice Ao82 t395.length co82, .int .i64 1] ?_; (with_reducible refine (laws_heldInt64S.calls kj80 _ _ t395 1 t409 _ ?side1 ?side2 A98.out).mono ?_); (case side1 => exact cP ((Kd.R_reads' HO_10.out).2.2)); (case side2 => exact (Kd.R_reads' HO_10.out).2.1); rintro e w' ⟨rfl, ⟨nd, rfl⟩⟩; refine ⟨_, rfl, ?_⟩))
                  go_ret
                  exact ⟨eW, bW⟩
                 ·rw [if_neg c100] at H
                  have c100b0 : (t409 == t394) = false := beq_eq_false_iff_ne.mpr c100
                  have c100b1 : (t409 != t394) = true := bne_iff_ne.mpr c100
                  exact absurd (Option.some.inj H) (by rw [HTr_.out]; decide)
            ·rw [if_neg c77] at H
             have c77b0 : (t396 == t394) = false := beq_eq_false_iff_ne.mpr c77
             have c77b1 : (t396 != t394) = true := bne_iff_ne.mpr c77
             exact absurd (Option.some.inj H) (by rw [HTr_.out]; decide)
       ·replace c51 := Bool.eq_false_iff.mpr c51
        subst c51
        have H1 : (some false) = some r := by rw [if_neg (show ¬ (false = true) by decide)] at H; exact H
        clear H
        have H := H1
        clear H1
        exact absurd (Option.some.inj H) (by rw [HTr_.out]; decide)
      ·replace c48 := Bool.eq_false_iff.mpr c48
       subst c48
       have H1 : (some false) = some r := by rw [if_neg (show ¬ (false = true) by decide)] at H; exact H
       clear H
       have H := H1
       clear H1
       exact absurd (Option.some.inj H) (by rw [HTr_.out]; decide)
end Go.Proofs.YtcbcfkmeemenkaaDoor.P
end M0
section M1
namespace Go.Proofs.YtcbcfkmeemenkaaDoor.Op
open Go.RowKit Go.Proofs.YtcbcfkmeemenkaaDoorW.PrintWords Go.Proofs.YtcbcfkmeemenkaaDoorW.PrintLast Go.Proofs.YtcbcfkmeemenkaaDoorW.PrintMore
/-- What is read at type t lies in memory as kind d says. -/
def Opens {α : Type} (P : Program) (t : TypeId) (d : Kd α) (ok : α → Prop) : Prop :=
  ∀ (H : Type) (enc : TypeId × Value → H) (w : World) (base : Nat) (held : Bool) (fuel : Nat) (cs : List Value) (x : DataW H × List MemPlace),
    DataW.trod enc P w base (fun _ => true) held fuel t cs = some x → ∃ a, d.K w a cs ∧ ok a
theorem opens_int {P : Program} {t : TypeId} {k : IntKind} (ht : P.underlying t = some (.int k)) : Opens P t (Kd.int k) (fun n => (Lit.int k n).wf = true) := by
  intro H enc w base held fuel cs x h
  obtain ⟨n, rfl, _, hw⟩ := DataW.trod_int ht h
  exact ⟨n, rfl, hw⟩
theorem opens_slice {α : Type} {P : Program} {t e : TypeId} {d : Kd α} {ok : α → Prop} (ht : P.underlying t = some (.slice e)) (hc : P.cellsOf e = d.sz) (he : Opens P e d ok) :
    Opens P t (Kd.slice e d) (fun xs => xs.length ≤ maxLen ∧ ∀ x ∈ xs, ok x) := by
  intro H enc w base held fuel cs x h
  rcases DataW.trod_slice ht h with ⟨rfl, _⟩ | ⟨a, len, cap, elems, rest, n, _, rfl, _, hb, hl, hm, hlen, hel, _, _⟩
  · exact ⟨[], ⟨none, 0, rfl, Nat.le_refl _, rfl, by simp, fun h => absurd h (by simp)⟩, by simp, by simp⟩
  · have each : ∀ i, i < len → ∃ y : α × List Value, y.2.length = d.sz ∧ d.K w y.1 y.2 ∧ ok y.1 ∧ ∀ j u, y.2[j]? = some u → w.cell? (a.add (i * d.sz + j)) = some u := by
      intro i hi
      have h1 := hel i hi
      rw [List.getElem?_eq_getElem (by omega), Option.bind_eq_some_iff] at h1
      obtain ⟨cs', h2, h3⟩ := h1
      obtain ⟨y, hk, ho⟩ := he _ _ _ _ _ _ _ _ h3
      obtain ⟨_, h5, h6⟩ := World.cells?_some h2
      refine ⟨(y, cs'), h5.trans hc, hk, ho, fun j u hj => ?_⟩
      have hjl : j < P.cellsOf e := by rw [← h5]; exact (List.getElem?_eq_some_iff.1 hj).1
      have h7 := h6 j hjl
      rw [hj, hc] at h7
      rw [← Addr.add_add]
      exact h7
    have hy := fun i : Fin len => Classical.choose_spec (each i.1 i.2)
    generalize hY : (fun i : Fin len => Classical.choose (each i.1 i.2)) = y at hy
    have hy' : ∀ i : Fin len, (y i).2.length = d.sz ∧ d.K w (y i).1 (y i).2 ∧ ok (y i).1 ∧ ∀ j u, (y i).2[j]? = some u → w.cell? (a.add (i.1 * d.sz + j)) = some u := by
      intro i; rw [← hY]; exact hy i
    clear hy hY
    have hln : (List.ofFn fun i => (y i).1).length = len := by simp
    refine ⟨List.ofFn fun i => (y i).1, ⟨some a, cap, by rw [hln], by rw [hln]; exact hl, ?_⟩, by rw [hln]; omega, ?_⟩
    · refine ⟨rfl, by rw [hln]; unfold maxLen at hm; omega, fun _ => ⟨a, rfl, fun j p hj => ?_⟩⟩
      have hjl : j < len := by rw [← hln]; exact (List.getElem?_eq_some_iff.1 hj).1
      rw [List.getElem?_ofFn, dif_pos hjl, Option.some.injEq] at hj
      subst hj
      obtain ⟨q1, q2, _, q4⟩ := hy' ⟨j, hjl⟩
      exact ⟨(y ⟨j, hjl⟩).2, q1, q2, fun i u hi => q4 i u hi⟩
    · intro x hx
      rw [List.mem_ofFn] at hx
      obtain ⟨i, rfl⟩ := hx
      exact (hy' i).2.2.1
/-- An argument that is a slice. -/
theorem open_row {α : Type} {P : Program} {t e : TypeId} {d : Kd α} {ok : List α → Prop} {H : Type} {enc : TypeId × Value → H} {w : World} {base fuel : Nat} {held : Bool} {v : Value} {x : DataW H × List MemPlace}
    (h : DataW.trod enc P w base (fun _ => true) held fuel t [v] = some x) (hs : Opens P t (Kd.slice e d) ok) : ∃ A c xs, v = .slice A xs.length c ∧ xs.length ≤ c ∧ d.C w A xs.length xs ∧ ok xs := by
  obtain ⟨xs, ⟨A, c, hv, hl, hr⟩, ho⟩ := hs _ _ _ _ _ _ _ _ h
  exact ⟨A, c, xs, by simpa using hv, hl, hr, ho⟩
end Go.Proofs.YtcbcfkmeemenkaaDoor.Op
end M1
section M2
namespace Go.Proofs.YtcbcfkmeemenkaaDoor.P
open Go.RowKit Go.Proofs.YtcbcfkmeemenkaaDoor.Op Go.Proofs.YtcbcfkmeemenkaaDoorW.PrintWords Go.Proofs.YtcbcfkmeemenkaaDoorW.PrintLast Go.ChangeShapes Go.WideShapes Go.ChangeAt Go.Lib Go.Joins Go.ChangeShapes Go.Deep Go.Joins
def okT52 (x : S52) : Prop := ((Lit.int .i64 x.f0).wf = true) ∧ ((Lit.int .i64 x.f1).wf = true)
set_option maxRecDepth 100000 in
theorem opensT52 : Opens Tryd.prog 52 k52 okT52 := by
  intro H enc w base held fuel cs x h
  obtain ⟨y0, y1, n_, -, hl, h0, h1⟩ := trod_struct2 Tryd.underlying52 h
  have hc : Tryd.prog.cellsOf 52 = 2 := by kernel_rfl
  have e2 : Tryd.prog.cellsOf 2 = 1 := by kernel_rfl
  rw [hc] at hl
  match cs, hl with
  | [c0, c1], _ =>
    simp only [e2, List.drop, List.take] at h0 h1
    obtain ⟨x0, q0, o0⟩ := (opens_int Tryd.underlying2) _ _ _ _ _ _ _ _ h0
    obtain ⟨x1, q1, o1⟩ := (opens_int Tryd.underlying2) _ _ _ _ _ _ _ _ h1
    exact ⟨⟨x0, x1⟩, ⟨[c0], [c1], rfl, q0, q1⟩, o0, o1⟩
end Go.Proofs.YtcbcfkmeemenkaaDoor.P
end M2
section M3
namespace Go.Proofs.YtcbcfkmeemenkaaDoor.U
open Go.RowKit Go.Proofs.YtcbcfkmeemenkaaDoorW.PrintWords Go.Proofs.YtcbcfkmeemenkaaDoorW.PrintLast
set_option linter.unusedVariables false
/-! Small laws of numbers and lists for the plain part: what a printed loop comes to. -/
theorem w64 {n : Int} (h0 : -9223372036854775808 ≤ n) (h1 : n ≤ 9223372036854775807) : wrap64 n = n := by unfold wrap64; omega
theorem w64s {n : Nat} (h : n < 9223372036854775807) : wrap64 ((n : Int) + 1) = ((n + 1 : Nat) : Int) := by unfold wrap64; omega
theorem rdn (l : List Int) (i : Nat) : rd l (i : Int) = l.getD i 0 := rfl
theorem rd_lt {l : List Int} {i : Nat} (h : i < l.length) : rd l (i : Int) = l[i] := by
  show l.getD i 0 = _; rw [List.getD_eq_getElem?_getD, List.getElem?_eq_getElem h]; rfl
theorem Ev.now' {α : Type} {g : Nat → Option α} {r : α} (h : ∀ k, g k = some r) : Ev g r := ⟨0, fun k _ => h k⟩
/-- One round more, the loop's own equation still to be unfolded. -/
theorem Ev.round {α : Type} {g : Nat → Option α} {r : α} (h : Ev (fun k => g (k + 1)) r) : Ev g r := by
  obtain ⟨K, h⟩ := h
  refine ⟨K + 1, fun n hn => ?_⟩
  obtain ⟨m, rfl⟩ : ∃ m, n = m + 1 := ⟨n - 1, by omega⟩
  exact h m (by omega)
theorem Ev.here {α β : Type} {g : Option α} {f : Nat → α → Option β} {a : α} {r : β} (h : g = some a) (k : Ev (fun n => f n a) r) : Ev (fun n => g.bind (f n)) r := by
  subst h; exact k
theorem Ev.yes {α : Type} {c : Prop} [Decidable c] {A B : Nat → Option α} {r : α} (h : c) (k : Ev A r) : Ev (fun n => if c then A n else B n) r := Ev.congr (fun _ => if_pos h) k
theorem Ev.no {α : Type} {c : Prop} [Decidable c] {A B : Nat → Option α} {r : α} (h : ¬ c) (k : Ev B r) : Ev (fun n => if c then A n else B n) r := Ev.congr (fun _ => if_neg h) k
theorem Ev.det {α : Type} {g : Nat → Option α} {a b : α} (h : Ev g a) (k : Ev g b) : a = b := by
  obtain ⟨K, h⟩ := h
  obtain ⟨L, k⟩ := k
  have h1 := h (max K L) (by omega)
  have h2 := k (max K L) (by omega)
  exact Option.some.inj (h1.symm.trans h2)
/-- An upward loop over an index: what it comes to from i on, if what one round does is known. -/
theorem Ev.up {σ ρ : Type} (L : Nat → σ → Int → Option ρ) (n : Nat) (R : Nat → σ → ρ) (I : Nat → σ → Prop)
    (hend : ∀ s, I n s → Ev (fun k => L k s (n : Int)) (R n s))
    (hstep : ∀ i s, i < n → I i s → (∀ s', I (i + 1) s' → Ev (fun k => L k s' ((i + 1 : Nat) : Int)) (R (i + 1) s')) → Ev (fun k => L k s (i : Int)) (R i s)) :
    ∀ i s, i ≤ n → I i s → Ev (fun k => L k s (i : Int)) (R i s) := by
  intro i s hi hI
  obtain ⟨d, hd⟩ : ∃ d, n - i = d := ⟨_, rfl⟩
  induction d generalizing i s with
  | zero =>
    have : i = n := by omega
    subst this
    exact hend s hI
  | succ d ih => exact hstep i s (by omega) hI (fun s' h' => ih (i + 1) s' (by omega) h' (by omega))
/-- The rounds come to something that Q says. -/
def EvP {α : Type} (g : Nat → Option α) (Q : α → Prop) : Prop := ∃ r, Ev g r ∧ Q r
theorem EvP.ret {α : Type} {Q : α → Prop} {r : α} (q : Q r) : EvP (fun _ => some r) Q := ⟨r, Ev.now r, q⟩
theorem EvP.mono {α : Type} {g : Nat → Option α} {Q Q' : α → Prop} (h : EvP g Q) (k : ∀ r, Q r → Q' r) : EvP g Q' := by
  obtain ⟨r, h, q⟩ := h; exact ⟨r, h, k r q⟩
theorem EvP.round {α : Type} {g : Nat → Option α} {Q : α → Prop} (h : EvP (fun k => g (k + 1)) Q) : EvP g Q := by
  obtain ⟨r, h, q⟩ := h; exact ⟨r, Ev.round h, q⟩
theorem EvP.yes {α : Type} {c : Prop} [Decidable c] {A B : Nat → Option α} {Q : α → Prop} (h : c) (k : EvP A Q) : EvP (fun n => if c then A n else B n) Q := by
  obtain ⟨r, k, q⟩ := k; exact ⟨r, Ev.yes h k, q⟩
theorem EvP.no {α : Type} {c : Prop} [Decidable c] {A B : Nat → Option α} {Q : α → Prop} (h : ¬ c) (k : EvP B Q) : EvP (fun n => if c then A n else B n) Q := by
  obtain ⟨r, k, q⟩ := k; exact ⟨r, Ev.no h k, q⟩
theorem EvP.here {α β : Type} {g : Option α} {f : Nat → α → Option β} {a : α} {Q : β → Prop} (h : g = some a) (k : EvP (fun n => f n a) Q) : EvP (fun n => g.bind (f n)) Q := by
  obtain ⟨r, k, q⟩ := k; exact ⟨r, Ev.here h k, q⟩
theorem EvP.bind {α β : Type} {g : Nat → Option α} {f : Nat → α → Option β} {a : α} {Q : β → Prop} (h : Ev g a) (k : EvP (fun n => f n a) Q) : EvP (fun n => (g n).bind (f n)) Q := by
  obtain ⟨r, k, q⟩ := k; exact ⟨r, Ev.bind h k, q⟩
theorem EvP.bindP {α β : Type} {g : Nat → Option α} {f : Nat → α → Option β} {R : α → Prop} {Q : β → Prop} (h : EvP g R) (k : ∀ a, R a → EvP (fun n => f n a) Q) : EvP (fun n => (g n).bind (f n)) Q := by
  obtain ⟨a, h, q⟩ := h; exact EvP.bind h (k a q)
theorem EvP.up {σ ρ : Type} (L : Nat → σ → Int → Option ρ) (Q : ρ → Prop) (n : Nat) (I : Nat → σ → Prop)
    (hend : ∀ s, I n s → EvP (fun k => L k s (n : Int)) Q)
    (hstep : ∀ i s, i < n → I i s → (∀ s', I (i + 1) s' → EvP (fun k => L k s' ((i + 1 : Nat) : Int)) Q) → EvP (fun k => L k s (i : Int)) Q) :
    ∀ i s, i ≤ n → I i s → EvP (fun k => L k s (i : Int)) Q := by
  intro i s hi hI
  obtain ⟨d, hd⟩ : ∃ d, n - i = d := ⟨_, rfl⟩
  induction d generalizing i s with
  | zero =>
    have : i = n := by omega
    subst this
    exact hend s hI
  | succ d ih => exact hstep i s (by omega) hI (fun s' h' => ih (i + 1) s' (by omega) h' (by omega))
/-- How many are still false. -/
def falses (l : List Bool) : Nat := l.count false
theorem falses_set {l : List Bool} {i : Nat} (hi : i < l.length) (h : l[i] = false) : falses (l.set i true) + 1 = falses l := by
  induction l generalizing i with
  | nil => simp at hi
  | cons b l ih =>
    cases i with
    | zero =>
      simp only [List.getElem_cons_zero] at h
      subst h
      simp [falses]
    | succ i =>
      simp only [List.getElem_cons_succ] at h
      have := ih (by simpa using hi) h
      simp only [List.set_cons_succ, falses, List.count_cons] at this ⊢
      omega
end Go.Proofs.YtcbcfkmeemenkaaDoor.U
end M3
section M4
namespace Go.Proofs.YtcbcfkmeemenkaaDoor.U
open Go.RowKit Go.Proofs.YtcbcfkmeemenkaaDoor.P Go.Proofs.YtcbcfkmeemenkaaDoorW.PrintWords Go.Proofs.YtcbcfkmeemenkaaDoorW.PrintLast
set_option linter.unusedVariables false
/-! What the law's own helpers come to: copies, equality, sizes. -/
theorem toS (x0 : List Int) (hn : x0.length ≤ 35184372088832) : Ev (fun k => laws_toInt64S.f k x0) x0 := by
  have key := Ev.up (fun k s i => laws_toInt64S.l0 k x0 s i) x0.length (fun _ _ => x0) (fun i s => s.length = x0.length ∧ ∀ j, j < i → s[j]? = x0[j]?)
    (fun s ⟨h1, h2⟩ => by
      refine Ev.round ?_
      simp only [laws_toInt64S.l0]
      refine Ev.no (by omega) ?_
      have : s = x0 := List.ext_getElem? fun j => by
        by_cases hj : j < x0.length
        · exact h2 j hj
        · rw [List.getElem?_eq_none (by omega), List.getElem?_eq_none (by omega)]
      rw [this]
      exact Ev.now _)
    (fun i s hi ⟨h1, h2⟩ ih => by
      refine Ev.round ?_
      simp only [laws_toInt64S.l0]
      refine Ev.yes (by omega) (Ev.yes (by omega) (Ev.yes (by omega) ?_))
      rw [w64s (by omega)]
      refine ih _ ⟨by simp [h1], fun j hj => ?_⟩
      rw [Int.toNat_natCast, rd_lt hi]
      by_cases e : j = i
      · subst e
        rw [List.getElem?_set_self (by omega), List.getElem?_eq_getElem hi]
      · rw [List.getElem?_set_ne (by omega)]
        exact h2 j (by omega))
  unfold laws_toInt64S.f
  refine Ev.yes (by omega) (Ev.yes (by omega) ?_)
  have := key 0 (List.replicate x0.length 0) (by omega) ⟨by simp, fun j hj => absurd hj (by omega)⟩
  simpa using this
theorem eqS (a b : List Int) (hn : a.length ≤ 9223372036854775806) : Ev (fun k => laws_eqInt64S.f k a b) (decide (a = b)) := by
  unfold laws_eqInt64S.f
  by_cases hl : a.length = b.length
  · refine Ev.yes (by omega) ?_
    have key := Ev.up (fun k (_ : Unit) i => laws_eqInt64S.l0 k a b i) a.length (fun _ _ => decide (a = b)) (fun i _ => ∀ j, j < i → a[j]? = b[j]?)
      (fun _ h2 => by
        refine Ev.round ?_
        simp only [laws_eqInt64S.l0]
        refine Ev.no (by omega) ?_
        have : a = b := List.ext_getElem? fun j => by
          by_cases hj : j < a.length
          · exact h2 j hj
          · rw [List.getElem?_eq_none (by omega), List.getElem?_eq_none (by omega)]
        rw [decide_eq_true this]
        exact Ev.now _)
      (fun i _ hi h2 ih => by
        refine Ev.round ?_
        simp only [laws_eqInt64S.l0]
        refine Ev.yes (by omega) (Ev.yes (by omega) (Ev.yes (by omega) ?_))
        rw [rd_lt hi, rd_lt (by omega : i < b.length), w64s (by omega)]
        by_cases e : a[i] = b[i]
        · refine Ev.yes e (ih () fun j hj => ?_)
          by_cases e' : j = i
          · subst e'
            rw [List.getElem?_eq_getElem hi, List.getElem?_eq_getElem (by omega), e]
          · exact h2 j (by omega)
        · refine Ev.no e ?_
          rw [decide_eq_false (fun h => e (by subst h; rfl))]
          exact Ev.now _)
    have := key 0 () (by omega) (fun j hj => absurd hj (by omega))
    simpa using this
  · refine Ev.no (by omega) ?_
    rw [decide_eq_false (fun h => hl (by rw [h]))]
    exact Ev.now _
end Go.Proofs.YtcbcfkmeemenkaaDoor.U
end M4
section M5
namespace Go.Proofs.YtcbcfkmeemenkaaDoor.U
open Go.RowKit Go.Proofs.YtcbcfkmeemenkaaDoorW.PrintWords Go.Proofs.YtcbcfkmeemenkaaDoorW.PrintLast Go.Proofs.YtcbcfkmeemenkaaDoorW.PrintMore
set_option linter.unusedVariables false
/-! Sets as numbers. -/
theorem i64_id (n : Int) (h0 : 0 ≤ n) (h1 : n < 2 ^ 63) : IntKind.i64.wrap n = n := by rw [IntKind.wrap_i64]; omega
theorem bor {a b : Nat} (ha : a < 2 ^ 63) (hb : b < 2 ^ 63) : bits .or .i64 (a : Int) (b : Int) = ((a ||| b : Nat) : Int) := (bits_nat .i64 63 (by decide) i64_id a b ha hb).2
theorem band {a b : Nat} (ha : a < 2 ^ 63) (hb : b < 2 ^ 63) : bits .and .i64 (a : Int) (b : Int) = ((a &&& b : Nat) : Int) := (bits_nat .i64 63 (by decide) i64_id a b ha hb).1
theorem shl1 {i : Nat} (hi : i < 63) : shl .i64 1 (i : Int) = ((2 ^ i : Nat) : Int) := by
  unfold shl
  rw [Int.toNat_natCast]
  have : min i IntKind.i64.bits = i := Nat.min_eq_left (by show i ≤ 64; omega)
  rw [this, Int.one_mul]
  have h := Nat.pow_lt_pow_right (a := 2) (by decide) hi
  rw [show ((2 : Int) ^ i) = ((2 ^ i : Nat) : Int) from by simp]
  exact i64_id _ (Int.natCast_nonneg _) (by exact_mod_cast h)
/-- The members k < n with p k, joined to s. -/
def orN (p : Nat → Bool) : Nat → Nat → Nat
  | 0, s => s
  | n + 1, s => if p n then orN p n s ||| 2 ^ n else orN p n s
theorem orN_yes {p : Nat → Bool} {n s : Nat} (h : p n = true) : orN p (n + 1) s = orN p n s ||| 2 ^ n := if_pos h
theorem orN_no {p : Nat → Bool} {n s : Nat} (h : p n = false) : orN p (n + 1) s = orN p n s := if_neg (by rw [h]; simp)
theorem testBit_orN (p : Nat → Bool) (n s j : Nat) : (orN p n s).testBit j = (s.testBit j || (decide (j < n) && p j)) := by
  induction n with
  | zero => simp [orN]
  | succ n ih =>
    unfold orN
    by_cases h : p n
    · rw [if_pos h, Nat.testBit_or, ih, Nat.testBit_two_pow]
      by_cases e : n = j
      · subst e; simp [h]
      · have e2 : decide (j < n + 1) = decide (j < n) := by rw [decide_eq_decide]; omega
        rw [e2]; simp [e]
    · rw [if_neg h, ih]
      by_cases e : n = j
      · subst e; simp [h]
      · have e2 : decide (j < n + 1) = decide (j < n) := by rw [decide_eq_decide]; omega
        rw [e2]
theorem orN_lt (p : Nat → Bool) (n s m : Nat) (hn : n ≤ m) (hs : s < 2 ^ m) : orN p n s < 2 ^ m := by
  induction n with
  | zero => exact hs
  | succ n ih =>
    unfold orN
    split
    · exact Nat.or_lt_two_pow (ih (by omega)) (Nat.pow_lt_pow_right (by decide) (by omega))
    · exact ih (by omega)
theorem hasN {m s : Nat} (hm : m < 2 ^ 63) (hs : s ≤ 64) : ((bits .and .i64 (shr .i64 (m : Int) (s : Int)) 1) == 1) = m.testBit s := by
  have hsh : shr .i64 (m : Int) (s : Int) = ((m / 2 ^ s : Nat) : Int) := by
    unfold shr
    rw [Int.toNat_natCast, Nat.min_eq_left (show s ≤ IntKind.i64.bits from hs)]
    rw [show ((2 : Int) ^ s) = ((2 ^ s : Nat) : Int) from by simp]
    exact (Int.natCast_ediv _ _).symm
  have hq : m / 2 ^ s < 2 ^ 63 := Nat.lt_of_le_of_lt (Nat.div_le_self _ _) hm
  rw [hsh, show (1 : Int) = ((1 : Nat) : Int) from rfl, band hq (by decide), Nat.and_one_is_mod, Nat.testBit_eq_decide_div_mod_eq]
  generalize m / 2 ^ s % 2 = r
  by_cases h : r = 1
  · subst h; rfl
  · rw [decide_eq_false h]
    simp; omega
end Go.Proofs.YtcbcfkmeemenkaaDoor.U
end M5
