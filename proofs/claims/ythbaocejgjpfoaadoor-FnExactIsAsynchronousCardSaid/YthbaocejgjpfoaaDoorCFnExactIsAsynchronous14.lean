import Derived.ArgAppend
import Derived.Below
import Derived.BigQuiet
import Derived.ChangeSame
import Derived.ChangeShapes
import Derived.Deep.AppendLies
import Derived.Deep.CutBlock
import Derived.Deep.DeepCutAuto
import Derived.Deep.Draws
import Derived.Deep.LoopGhost
import Derived.Deep.OwnRows
import Derived.Deep.QuietTactic
import Derived.Deep.RegionHeld3
import Derived.Deep.Slices
import Derived.Deep.Strs
import Derived.KernelRfl
import Derived.Laws.BitsLemmas
import Derived.Laws.BytesArg
import Derived.Laws.IdiomCopy
import Derived.Laws.MakeOwn
import Derived.Laws.OwnMore
import Derived.Laws.Rows
import Derived.Laws.Slices
import Derived.Laws.StructEq
import Derived.Lib.AppendStr
import Derived.Lib.ConvBytes
import Derived.Lib.SliceRun
import Derived.Lib.SmallJoins
import Derived.Maps.AppendAt
import Derived.OrdersHeld
import Derived.OwnWalk
import Derived.RowKit
import Derived.RowKit3
import Derived.Shelf.Abstract
import Derived.Shelf.Spec.TrailingZeros
import Derived.Tactics
import Derived.Test.YthbaocejgjpfoaaDoorChecked
import Derived.Test.YthbaocejgjpfoaaDoorProg
import Derived.WalkKit
import Derived.WideLaws
import Derived.Test.YthbaocejgjpfoaaDoorCFnExactIsAsynchronous0
import Derived.Test.YthbaocejgjpfoaaDoorCFnExactIsAsynchronous1
import Derived.Test.YthbaocejgjpfoaaDoorCFnExactIsAsynchronous2
import Derived.Test.YthbaocejgjpfoaaDoorCFnExactIsAsynchronous3
import Derived.Test.YthbaocejgjpfoaaDoorCFnExactIsAsynchronous4
import Derived.Test.YthbaocejgjpfoaaDoorCFnExactIsAsynchronous6
import Derived.Test.YthbaocejgjpfoaaDoorCFnExactIsAsynchronous7
import Derived.Test.YthbaocejgjpfoaaDoorCFnExactIsAsynchronous8
import Derived.Test.YthbaocejgjpfoaaDoorCFnExactIsAsynchronous9
import Derived.Test.YthbaocejgjpfoaaDoorCFnExactIsAsynchronous11
import Derived.Test.YthbaocejgjpfoaaDoorCFnExactIsAsynchronous12
import Derived.Test.YthbaocejgjpfoaaDoorCFnExactIsAsynchronous13
section M0
namespace Go.Proofs.YthbaocejgjpfoaaDoor.P
open Go.RowKit Go.Proofs.YthbaocejgjpfoaaDoor.Sh Go.Proofs.YthbaocejgjpfoaaDoorW.PrintWords Go.Proofs.YthbaocejgjpfoaaDoorW.PrintLast Go.Proofs.YthbaocejgjpfoaaDoorW.PrintMore
attribute [local go_sem] max2_int min2_int max_two min_two max_three min_three max_four min_four   -- for this text's walks alone
set_option linter.unusedVariables false
set_option linter.unusedSimpArgs false

/-! ### laws_FnExactIsAsynchronous: function 7 -/
def laws_FnExactIsAsynchronous.f (k : Nat) (l0_0 : List Int) (l0_1 : List Int) (l0_2 : List Int) (l0_3 : List (S147)) (l0_4 : List (List Int)) : Option (Bool) := (laws_szAsynchronous.f k l0_0 l0_1 l0_2 l0_3 l0_4 1048576).bind fun t595 => (if t595 < 0 then (some true) else ((laws_toAsynchronous.f k l0_0 l0_1 l0_2 l0_3 l0_4).bind fun bt596 => ((spec_IsAsynchronous.f k bt596.1 bt596.2.1 bt596.2.2.1 bt596.2.2.2.1 bt596.2.2.2.2).bind fun t611 => ((laws_toAsynchronous.f k l0_0 l0_1 l0_2 l0_3 l0_4).bind fun bt612 => ((impl_IsAsynchronous.f k bt612.1 bt612.2.1 bt612.2.2.1 bt612.2.2.2.1 bt612.2.2.2.2).bind fun t628 => (if (t628 != t611) = true then (some false) else ((laws_toAsynchronous.f k l0_0 l0_1 l0_2 l0_3 l0_4).bind fun bt629 => ((laws_eqAsynchronous.f k bt612.1 bt612.2.1 bt612.2.2.1 bt612.2.2.2.1 bt612.2.2.2.2 bt629.1 bt629.2.1 bt629.2.2.1 bt629.2.2.2.1 bt629.2.2.2.2).bind fun t644 => (if t644 = true then (some true) else (some false))))))))))
theorem laws_FnExactIsAsynchronous.mono : ∀ a0 a1 a2 a3 a4 k, LeO (laws_FnExactIsAsynchronous.f k a0 a1 a2 a3 a4) (laws_FnExactIsAsynchronous.f (k + 1) a0 a1 a2 a3 a4) := by
 intro a0 a1 a2 a3 a4 k
 unfold laws_FnExactIsAsynchronous.f
 repeat' first
   | (with_reducible exact impl_IsAsynchronous.mono _ _ _ _ _ _)
   | (with_reducible exact laws_eqAsynchronous.mono _ _ _ _ _ _ _ _ _ _ _)
   | (with_reducible exact laws_szAsynchronous.mono _ _ _ _ _ _ _)
   | (with_reducible exact laws_toAsynchronous.mono _ _ _ _ _ _)
   | (with_reducible exact spec_IsAsynchronous.mono _ _ _ _ _ _)
   | (with_reducible exact LeO.refl _)
   | (with_reducible exact LeO.none _)
   | (with_reducible refine LeO.ite ?_ ?_)
   | (with_reducible refine LeO.bind ?_ (fun _ => ?_))
   | exact impl_IsAsynchronous.mono _ _ _ _ _ _
   | exact laws_eqAsynchronous.mono _ _ _ _ _ _ _ _ _ _ _
   | exact laws_szAsynchronous.mono _ _ _ _ _ _ _
   | exact laws_toAsynchronous.mono _ _ _ _ _ _
   | exact spec_IsAsynchronous.mono _ _ _ _ _ _
   | exact LeO.none _
   | refine LeO.ite ?_ ?_
   | refine LeO.bind ?_ (fun _ => ?_)
set_option maxHeartbeats 8000000 in
set_option maxRecDepth 100000 in
theorem laws_FnExactIsAsynchronous.calls (k : Nat) (A0_0 : Option Addr) (c0_0 : Nat) (l0_0 : List Int) (A0_1 : Option Addr) (c0_1 : Nat) (l0_1 : List Int) (A0_2 : Option Addr) (c0_2 : Nat) (l0_2 : List Int) (A0_3 : Option Addr) (c0_3 : Nat) (l0_3 : List (S147)) (A0_4 : Option Addr) (c0_4 : Nat) (l0_4 : List (List Int)) (r : Bool) (w : World) (hr0_0 : Kd.C (Kd.int .i64) w A0_0 l0_0.length l0_0) (hc0_0 : l0_0.length ≤ c0_0) (hr0_1 : Kd.C (Kd.int .i64) w A0_1 l0_1.length l0_1) (hc0_1 : l0_1.length ≤ c0_1) (hr0_2 : Kd.C (Kd.int .i64) w A0_2 l0_2.length l0_2) (hc0_2 : l0_2.length ≤ c0_2) (hr0_3 : Kd.C k147 w A0_3 l0_3.length l0_3) (hc0_3 : l0_3.length ≤ c0_3) (hr0_4 : Kd.C (Kd.slice 2 (Kd.int .i64)) w A0_4 l0_4.length l0_4) (hc0_4 : l0_4.length ≤ c0_4) (h : laws_FnExactIsAsynchronous.f k l0_0 l0_1 l0_2 l0_3 l0_4 = some r) (hT_ : r = true) (hTab : Tab w) :
  Calls Tryd.prog 7 #[.agg #[.slice A0_0 l0_0.length c0_0, .slice A0_1 l0_1.length c0_1, .slice A0_2 l0_2.length c0_2, .slice A0_3 l0_3.length c0_3, .slice A0_4 l0_4.length c0_4]] w fun e w' => e = .returned (.bool r) ∧ Below w.heap.size w w' := by
 have HTab := Aside0.mk hTab
 clear hTab
 have HT_ := Aside0.mk hT_
 clear hT_
 have hu60 := Tryd.underlying60
 have hu65 := Tryd.underlying65
 have HR0_0 := Aside0.mk hr0_0
 have HC0_0 := Aside0.mk hc0_0
 clear hr0_0 hc0_0
 have HR0_1 := Aside0.mk hr0_1
 have HC0_1 := Aside0.mk hc0_1
 clear hr0_1 hc0_1
 have HR0_2 := Aside0.mk hr0_2
 have HC0_2 := Aside0.mk hc0_2
 clear hr0_2 hc0_2
 have HR0_3 := Aside0.mk hr0_3
 have HC0_3 := Aside0.mk hc0_3
 clear hr0_3 hc0_3
 have HR0_4 := Aside0.mk hr0_4
 have HC0_4 := Aside0.mk hc0_4
 clear hr0_4 hc0_4
 have HB := Aside0.mk (Below.refl w.heap.size w)
 have H : ((laws_szAsynchronous.f k l0_0 l0_1 l0_2 l0_3 l0_4 1048576).bind fun t595 => (if t595 < 0 then (some true) else ((laws_toAsynchronous.f k l0_0 l0_1 l0_2 l0_3 l0_4).bind fun bt596 => ((spec_IsAsynchronous.f k bt596.1 bt596.2.1 bt596.2.2.1 bt596.2.2.2.1 bt596.2.2.2.2).bind fun t611 => ((laws_toAsynchronous.f k l0_0 l0_1 l0_2 l0_3 l0_4).bind fun bt612 => ((impl_IsAsynchronous.f k bt612.1 bt612.2.1 bt612.2.2.1 bt612.2.2.2.1 bt612.2.2.2.2).bind fun t628 => (if (t628 != t611) = true then (some false) else ((laws_toAsynchronous.f k l0_0 l0_1 l0_2 l0_3 l0_4).bind fun bt629 => ((laws_eqAsynchronous.f k bt612.1 bt612.2.1 bt612.2.2.1 bt612.2.2.2.1 bt612.2.2.2.2 bt629.1 bt629.2.1 bt629.2.2.1 bt629.2.2.2.1 bt629.2.2.2.2).bind fun t644 => (if t644 = true then (some true) else (some false))))))))))) = some r := h
 clear h
 replace H := Option.bind_eq_some_iff.mp H
 obtain ⟨t595, A20, H⟩ := H
 replace H : (if t595 < 0 then (some true) else ((laws_toAsynchronous.f k l0_0 l0_1 l0_2 l0_3 l0_4).bind fun bt596 => ((spec_IsAsynchronous.f k bt596.1 bt596.2.1 bt596.2.2.1 bt596.2.2.2.1 bt596.2.2.2.2).bind fun t611 => ((laws_toAsynchronous.f k l0_0 l0_1 l0_2 l0_3 l0_4).bind fun bt612 => ((impl_IsAsynchronous.f k bt612.1 bt612.2.1 bt612.2.2.1 bt612.2.2.2.1 bt612.2.2.2.2).bind fun t628 => (if (t628 != t611) = true then (some false) else ((laws_toAsynchronous.f k l0_0 l0_1 l0_2 l0_3 l0_4).bind fun bt629 => ((laws_eqAsynchronous.f k bt612.1 bt612.2.1 bt612.2.2.1 bt612.2.2.2.1 bt612.2.2.2.2 bt629.1 bt629.2.1 bt629.2.2.1 bt629.2.2.2.1 bt629.2.2.2.2).bind fun t644 => (if t644 = true then (some true) else (some false)))))))))) = some r := H
 have A2 := Aside0.mk A20
 clear A20
 by_cases c3 : t595 < 0
 ·rw [if_pos c3] at H
  have c3b0 : decide (t595 < 0) = true := decide_eq_true c3
  clear c3
  obtain rfl := Option.some.inj H
  go_enter Tryd.func7, Tryd.ntmps7
  go_wp2_with (first | ((with_reducible refine gate_dst (N := 1) rfl ?_); refine boxS (N := 1) (cs := #[.slice A0_0 l0_0.length c0_0, .slice A0_1 l0_1.length c0_1, .slice A0_2 l0_2.length c0_2, .slice A0_3 l0_3.length c0_3, .slice A0_4 l0_4.length c0_4]) (t := 60) ?_; intro gb594 hg w4 hbox hb; have n0_ := Aside0.mk (below_step (bW) hb); have n1_ := Aside0.mk (hbox); have n2_ := geW (w := w) hg; have n3_ := geW (w := w) hg; clear HB; have HB := n0_; have BK594 := n1_; have GW594 := n2_; have GE594 := n3_; clear n0_ n1_ n2_ n3_; clear hb hbox hg; have hcz5_0 : w4.cell? ⟨gb594, 0, none⟩ = some (.slice A0_0 l0_0.length c0_0) := (blk_cell BK594.out 0).trans rfl; have hcz5_1 : w4.cell? ⟨gb594, 1, none⟩ = some (.slice A0_1 l0_1.length c0_1) := (blk_cell BK594.out 1).trans rfl; have hcz5_2 : w4.cell? ⟨gb594, 2, none⟩ = some (.slice A0_2 l0_2.length c0_2) := (blk_cell BK594.out 2).trans rfl; have hcz5_3 : w4.cell? ⟨gb594, 3, none⟩ = some (.slice A0_3 l0_3.length c0_3) := (blk_cell BK594.out 3).trans rfl; have hcz5_4 : w4.cell? ⟨gb594, 4, none⟩ = some (.slice A0_4 l0_4.length c0_4) := (blk_cell BK594.out 4).trans rfl; have hfz5_0 := blk_frozen BK594.out 0; have hfz5_1 := blk_frozen BK594.out 1; have hfz5_2 := blk_frozen BK594.out 2; have hfz5_3 := blk_frozen BK594.out 3; have hfz5_4 := blk_frozen BK594.out 4) | ((with_reducible refine gate_callee (f := 37) rfl ?_); refine goesS (some 9) Tryd.func37 #[.agg #[.slice A0_0 l0_0.length c0_0, .slice A0_1 l0_1.length c0_1, .slice A0_2 l0_2.length c0_2, .slice A0_3 l0_3.length c0_3, .slice A0_4 l0_4.length c0_4], .int .i64 1048576] ?_; (with_reducible refine (laws_szAsynchronous.calls k _ _ l0_0 _ _ l0_1 _ _ l0_2 _ _ l0_3 _ _ l0_4 1048576 t595 _ ?side1 ?side2 ?side3 ?side4 ?side5 ?side6 ?side7 ?side8 ?side9 ?side10 A2.out).mono ?_); (case side1 => exact cP (Kd.C_below HR0_0.out HB.out)); (case side2 => exact HC0_0.out); (case side3 => exact cP (Kd.C_below HR0_1.out HB.out)); (case side4 => exact HC0_1.out); (case side5 => exact cP (Kd.C_below HR0_2.out HB.out)); (case side6 => exact HC0_2.out); (case side7 => exact cP (Kd.C_below HR0_3.out HB.out)); (case side8 => exact HC0_3.out); (case side9 => exact cP (Kd.C_below HR0_4.out HB.out)); (case side10 => exact HC0_4.out); rintro e w6 ⟨rfl, hb⟩; refine ⟨_, rfl, ?_⟩; have n0_ := Aside0.mk (blkB BK594.out hb); have n1_ := Aside0.mk (below_step (bW) hb); clear BK594; clear HB; have BK594 := n0_; have HB := n1_; clear n0_ n1_; (try clear hb); (try clear hb2); (try clear hk); (try clear hi)))
  go_ret
  exact ⟨eW, bW⟩
 ·rw [if_neg c3] at H
  have c3b0 : decide (t595 < 0) = false := decide_eq_false c3
  clear c3
  replace H := Option.bind_eq_some_iff.mp H
  obtain ⟨⟨t596, t599, t602, t605, t608⟩, A70, H⟩ := H
  replace H : ((spec_IsAsynchronous.f k t596 t599 t602 t605 t608).bind fun t611 => ((laws_toAsynchronous.f k l0_0 l0_1 l0_2 l0_3 l0_4).bind fun bt612 => ((impl_IsAsynchronous.f k bt612.1 bt612.2.1 bt612.2.2.1 bt612.2.2.2.1 bt612.2.2.2.2).bind fun t628 => (if (t628 != t611) = true then (some false) else ((laws_toAsynchronous.f k l0_0 l0_1 l0_2 l0_3 l0_4).bind fun bt629 => ((laws_eqAsynchronous.f k bt612.1 bt612.2.1 bt612.2.2.1 bt612.2.2.2.1 bt612.2.2.2.2 bt629.1 bt629.2.1 bt629.2.2.1 bt629.2.2.2.1 bt629.2.2.2.2).bind fun t644 => (if t644 = true then (some true) else (some false)))))))) = some r := H
  have A7 := Aside0.mk A70
  clear A70
  replace H := Option.bind_eq_some_iff.mp H
  obtain ⟨t611, A80, H⟩ := H
  replace H : ((laws_toAsynchronous.f k l0_0 l0_1 l0_2 l0_3 l0_4).bind fun bt612 => ((impl_IsAsynchronous.f k bt612.1 bt612.2.1 bt612.2.2.1 bt612.2.2.2.1 bt612.2.2.2.2).bind fun t628 => (if (t628 != t611) = true then (some false) else ((laws_toAsynchronous.f k l0_0 l0_1 l0_2 l0_3 l0_4).bind fun bt629 => ((laws_eqAsynchronous.f k bt612.1 bt612.2.1 bt612.2.2.1 bt612.2.2.2.1 bt612.2.2.2.2 bt629.1 bt629.2.1 bt629.2.2.1 bt629.2.2.2.1 bt629.2.2.2.2).bind fun t644 => (if t644 = true then (some true) else (some false))))))) = some r := H
  have A8 := Aside0.mk A80
  clear A80
  replace H := Option.bind_eq_some_iff.mp H
  obtain ⟨⟨t612, t615, t618, t621, t624⟩, A90, H⟩ := H
  replace H : ((impl_IsAsynchronous.f k t612 t615 t618 t621 t624).bind fun t628 => (if (t628 != t611) = true then (some false) else ((laws_toAsynchronous.f k l0_0 l0_1 l0_2 l0_3 l0_4).bind fun bt629 => ((laws_eqAsynchronous.f k t612 t615 t618 t621 t624 bt629.1 bt629.2.1 bt629.2.2.1 bt629.2.2.2.1 bt629.2.2.2.2).bind fun t644 => (if t644 = true then (some true) else (some false)))))) = some r := H
  have A9 := Aside0.mk A90
  clear A90
  replace H := Option.bind_eq_some_iff.mp H
  obtain ⟨t628, A100, H⟩ := H
  replace H : (if (t628 != t611) = true then (some false) else ((laws_toAsynchronous.f k l0_0 l0_1 l0_2 l0_3 l0_4).bind fun bt629 => ((laws_eqAsynchronous.f k t612 t615 t618 t621 t624 bt629.1 bt629.2.1 bt629.2.2.1 bt629.2.2.2.1 bt629.2.2.2.2).bind fun t644 => (if t644 = true then (some true) else (some false))))) = some r := H
  have A10 := Aside0.mk A100
  clear A100
  by_cases c11 : (t628 != t611) = true
  ·rw [if_pos c11] at H
   have c11b0 : (t628 != t611) = true := c11
   (try (have c11b1 : decide (t628 = t611) = false := by simpa using c11))
   (try (have c11b2 : (t628 == t611) = false := by simpa using c11))
   (try (have c11b3 : ¬ (t628 = t611) := by simpa using c11))
   clear c11
   exact absurd (Option.some.inj H) (by rw [HT_.out]; decide)
  ·rw [if_neg c11] at H
   have c11b0 : (t628 != t611) = false := by simpa using c11
   (try (have c11b1 : decide (t628 = t611) = true := by simpa using c11))
   (try (have c11b2 : (t628 == t611) = true := by simpa using c11))
   clear c11
   replace H := Option.bind_eq_some_iff.mp H
   obtain ⟨⟨t629, t632, t635, t638, t641⟩, A120, H⟩ := H
   replace H : ((laws_eqAsynchronous.f k t612 t615 t618 t621 t624 t629 t632 t635 t638 t641).bind fun t644 => (if t644 = true then (some true) else (some false))) = some r := H
   have A12 := Aside0.mk A120
   clear A120
   replace H := Option.bind_eq_some_iff.mp H
   obtain ⟨t644, A130, H⟩ := H
   replace H : (if t644 = true then (some true) else (some false)) = some r := H
   have A13 := Aside0.mk A130
   clear A130
   by_cases c14 : t644 = true
   ·subst c14
    have H1 : (some true) = some r := by rw [if_pos rfl] at H; exact H
    clear H
    have H := H1
    clear H1
    obtain rfl := Option.some.inj H
    go_enter Tryd.func7, Tryd.ntmps7
    try go_wp2_with (first | ((with_reducible refine gate_dst (N := 1) rfl ?_); refine boxS (N := 1) (cs := #[.slice A0_0 l0_0.length c0_0, .slice A0_1 l0_1.length c0_1, .slice A0_2 l0_2.length c0_2, .slice A0_3 l0_3.length c0_3, .slice A0_4 l0_4.length c0_4]) (t := 60) ?_; intro gb594 hg w15 hbox hb; have n0_ := Aside0.mk (below_step (bW) hb); have n1_ := Aside0.mk (hbox); have n2_ := geW (w := w) hg; have n3_ := geW (w := w) hg; clear HB; have HB := n0_; have BK594 := n1_; have GW594 := n2_; have GE594 := n3_; clear n0_ n1_ n2_ n3_; clear hb hbox hg; have hcz16_0 : w15.cell? ⟨gb594, 0, none⟩ = some (.slice A0_0 l0_0.length c0_0) := (blk_cell BK594.out 0).trans rfl; have hcz16_1 : w15.cell? ⟨gb594, 1, none⟩ = some (.slice A0_1 l0_1.length c0_1) := (blk_cell BK594.out 1).trans rfl; have hcz16_2 : w15.cell? ⟨gb594, 2, none⟩ = some (.slice A0_2 l0_2.length c0_2) := (blk_cell BK594.out 2).trans rfl; have hcz16_3 : w15.cell? ⟨gb594, 3, none⟩ = some (.slice A0_3 l0_3.length c0_3) := (blk_cell BK594.out 3).trans rfl; have hcz16_4 : w15.cell? ⟨gb594, 4, none⟩ = some (.slice A0_4 l0_4.length c0_4) := (blk_cell BK594.out 4).trans rfl; have hfz16_0 := blk_frozen BK594.out 0; have hfz16_1 := blk_frozen BK594.out 1; have hfz16_2 := blk_frozen BK594.out 2; have hfz16_3 := blk_frozen BK594.out 3; have hfz16_4 := blk_frozen BK594.out 4) | ((with_reducible refine gate_callee (f := 37) rfl ?_); refine goesS (some 9) Tryd.func37 #[.agg #[.slice A0_0 l0_0.length c0_0, .slice A0_1 l0_1.length c0_1, .slice A0_2 l0_2.length c0_2, .slice A0_3 l0_3.length c0_3, .slice A0_4 l0_4.length c0_4], .int .i64 1048576] ?_; (with_reducible refine (laws_szAsynchronous.calls k _ _ l0_0 _ _ l0_1 _ _ l0_2 _ _ l0_3 _ _ l0_4 1048576 t595 _ ?side1 ?side2 ?side3 ?side4 ?side5 ?side6 ?side7 ?side8 ?side9 ?side10 A2.out).mono ?_); (case side1 => exact cP (Kd.C_below HR0_0.out HB.out)); (case side2 => exact HC0_0.out); (case side3 => exact cP (Kd.C_below HR0_1.out HB.out)); (case side4 => exact HC0_1.out); (case side5 => exact cP (Kd.C_below HR0_2.out HB.out)); (case side6 => exact HC0_2.out); (case side7 => exact cP (Kd.C_below HR0_3.out HB.out)); (case side8 => exact HC0_3.out); (case side9 => exact cP (Kd.C_below HR0_4.out HB.out)); (case side10 => exact HC0_4.out); rintro e w17 ⟨rfl, hb⟩; refine ⟨_, rfl, ?_⟩; have n0_ := Aside0.mk (blkB BK594.out hb); have n1_ := Aside0.mk (below_step (bW) hb); clear BK594; clear HB; have BK594 := n0_; have HB := n1_; clear n0_ n1_; (try clear hb); (try clear hb2); (try clear hk); (try clear hi); have hcz18_0 : w17.cell? ⟨gb594, 0, none⟩ = some (.slice A0_0 l0_0.length c0_0) := (blk_cell BK594.out 0).trans rfl; have hcz18_1 : w17.cell? ⟨gb594, 1, none⟩ = some (.slice A0_1 l0_1.length c0_1) := (blk_cell BK594.out 1).trans rfl; have hcz18_2 : w17.cell? ⟨gb594, 2, none⟩ = some (.slice A0_2 l0_2.length c0_2) := (blk_cell BK594.out 2).trans rfl; have hcz18_3 : w17.cell? ⟨gb594, 3, none⟩ = some (.slice A0_3 l0_3.length c0_3) := (blk_cell BK594.out 3).trans rfl; have hcz18_4 : w17.cell? ⟨gb594, 4, none⟩ = some (.slice A0_4 l0_4.length c0_4) := (blk_cell BK594.out 4).trans rfl; have hfz18_0 := blk_frozen BK594.out 0; have hfz18_1 := blk_frozen BK594.out 1; have hfz18_2 := blk_frozen BK594.out 2; have hfz18_3 := blk_frozen BK594.out 3; have hfz18_4 := blk_frozen BK594.out 4) | ((with_reducible refine gate_callee (f := 39) rfl ?_); refine goesS (some 13) Tryd.func39 #[.agg #[.slice A0_0 l0_0.length c0_0, .slice A0_1 l0_1.length c0_1, .slice A0_2 l0_2.length c0_2, .slice A0_3 l0_3.length c0_3, .slice A0_4 l0_4.length c0_4]] ?_; (with_reducible refine (laws_toAsynchronous.calls k _ _ l0_0 _ _ l0_1 _ _ l0_2 _ _ l0_3 _ _ l0_4 t596 t599 t602 t605 t608 _ ?side1 ?side2 ?side3 ?side4 ?side5 ?side6 ?side7 ?side8 ?side9 ?side10 A7.out).mono ?_); (case side1 => exact cP (Kd.C_below HR0_0.out HB.out)); (case side2 => exact HC0_0.out); (case side3 => exact cP (Kd.C_below HR0_1.out HB.out)); (case side4 => exact HC0_1.out); (case side5 => exact cP (Kd.C_below HR0_2.out HB.out)); (case side6 => exact HC0_2.out); (case side7 => exact cP (Kd.C_below HR0_3.out HB.out)); (case side8 => exact HC0_3.out); (case side9 => exact cP (Kd.C_below HR0_4.out HB.out)); (case side10 => exact HC0_4.out); rintro e w19 ⟨v597, v600, v603, v606, v609, rfl, ho0, ho1, ho2, ho3, ho4, hb⟩; refine ⟨_, rfl, ?_⟩; have n0_ := Aside0.mk (Kd.R_lower ho0 (below_size (bW))); have n1_ := Aside0.mk (Kd.R_lower ho1 (below_size (bW))); have n2_ := Aside0.mk (Kd.R_lower ho2 (below_size (bW))); have n3_ := Aside0.mk (Kd.S_lower ho3 (below_size (bW))); have n4_ := Aside0.mk (Kd.S_lower ho4 (below_size (bW))); have n5_ := Aside0.mk (blkB BK594.out hb); have n6_ := Aside0.mk (below_step (bW) hb); clear BK594; clear HB; have HO598 := n0_; have HO601 := n1_; have HO604 := n2_; have HO607 := n3_; have HO610 := n4_; have BK594 := n5_; have HB := n6_; clear n0_ n1_ n2_ n3_ n4_ n5_ n6_; (try clear hb); (try clear hb2); (try clear hk); (try clear hi); (try clear ho0); (try clear ho1); (try clear ho2); (try clear ho3); (try clear ho4); obtain ⟨Ao20, co20, eo20⟩ := Kd.R_slice HO598.out; subst eo20; obtain ⟨Ao21, co21, eo21⟩ := Kd.R_slice HO601.out; subst eo21; obtain ⟨Ao22, co22, eo22⟩ := Kd.R_slice HO604.out; subst eo22; obtain ⟨Ao23, co23, eo23⟩ := Kd.S_slice HO607.out; subst eo23; obtain ⟨Ao24, co24, eo24⟩ := Kd.S_slice HO610.out; subst eo24) | ((with_reducible refine gate_callee (f := 38) rfl ?_); refine goesS (some 14) Tryd.func38 #[.agg #[.slice Ao20 t596.length co20, .slice Ao21 t599.length co21, .slice Ao22 t602.length co22, .slice Ao23 t605.length co23, .slice Ao24 t608.length co24]] ?_; (with_reducible refine (spec_IsAsynchronous.calls k _ _ t596 _ _ t599 _ _ t602 _ _ t605 _ _ t608 t611 _ ?side1 ?side2 ?side3 ?side4 ?side5 ?side6 ?side7 ?side8 ?side9 ?side10 A8.out).mono ?_); (case side1 => exact cP ((Kd.R_reads' HO598.out).2.2)); (case side2 => exact (Kd.R_reads' HO598.out).2.1); (case side3 => exact cP ((Kd.R_reads' HO601.out).2.2)); (case side4 => exact (Kd.R_reads' HO601.out).2.1); (case side5 => exact cP ((Kd.R_reads' HO604.out).2.2)); (case side6 => exact (Kd.R_reads' HO604.out).2.1); (case side7 => exact cP ((Kd.S_reads' HO607.out).2.2)); (case side8 => exact (Kd.S_reads' HO607.out).2.1); (case side9 => exact cP ((Kd.S_reads' HO610.out).2.2)); (case side10 => exact (Kd.S_reads' HO610.out).2.1); rintro e w25 ⟨rfl, hb⟩; refine ⟨_, rfl, ?_⟩; have n0_ := Aside0.mk (Kd.R_below (rP HO598.out) hb); have n1_ := Aside0.mk (Kd.R_below (rP HO601.out) hb); have n2_ := Aside0.mk (Kd.R_below (rP HO604.out) hb); have n3_ := Aside0.mk (Kd.S_below (sP HO607.out) hb); have n4_ := Aside0.mk (Kd.S_below (sP HO610.out) hb); have n5_ := Aside0.mk (blkB BK594.out hb); have n6_ := Aside0.mk (below_step (bW) hb); clear HO598; clear HO601; clear HO604; clear HO607; clear HO610; clear BK594; clear HB; have HO598 := n0_; have HO601 := n1_; have HO604 := n2_; have HO607 := n3_; have HO610 := n4_; have BK594 := n5_; have HB := n6_; clear n0_ n1_ n2_ n3_ n4_ n5_ n6_; (try clear hb); (try clear hb2); (try clear hk); (try clear hi); have hcz26_0 : w25.cell? ⟨gb594, 0, none⟩ = some (.slice A0_0 l0_0.length c0_0) := (blk_cell BK594.out 0).trans rfl; have hcz26_1 : w25.cell? ⟨gb594, 1, none⟩ = some (.slice A0_1 l0_1.length c0_1) := (blk_cell BK594.out 1).trans rfl; have hcz26_2 : w25.cell? ⟨gb594, 2, none⟩ = some (.slice A0_2 l0_2.length c0_2) := (blk_cell BK594.out 2).trans rfl; have hcz26_3 : w25.cell? ⟨gb594, 3, none⟩ = some (.slice A0_3 l0_3.length c0_3) := (blk_cell BK594.out 3).trans rfl; have hcz26_4 : w25.cell? ⟨gb594, 4, none⟩ = some (.slice A0_4 l0_4.length c0_4) := (blk_cell BK594.out 4).trans rfl; have hfz26_0 := blk_frozen BK594.out 0; have hfz26_1 := blk_frozen BK594.out 1; have hfz26_2 := blk_frozen BK594.out 2; have hfz26_3 := blk_frozen BK594.out 3; have hfz26_4 := blk_frozen BK594.out 4) | ((with_reducible refine gate_callee (f := 39) rfl ?_); refine goesS (some 16) Tryd.func39 #[.agg #[.slice A0_0 l0_0.length c0_0, .slice A0_1 l0_1.length c0_1, .slice A0_2 l0_2.length c0_2, .slice A0_3 l0_3.length c0_3, .slice A0_4 l0_4.length c0_4]] ?_; (with_reducible refine (laws_toAsynchronous.calls k _ _ l0_0 _ _ l0_1 _ _ l0_2 _ _ l0_3 _ _ l0_4 t612 t615 t618 t621 t624 _ ?side1 ?side2 ?side3 ?side4 ?side5 ?side6 ?side7 ?side8 ?side9 ?side10 A9.out).mono ?_); (case side1 => exact cP (Kd.C_below HR0_0.out HB.out)); (case side2 => exact HC0_0.out); (case side3 => exact cP (Kd.C_below HR0_1.out HB.out)); (case side4 => exact HC0_1.out); (case side5 => exact cP (Kd.C_below HR0_2.out HB.out)); (case side6 => exact HC0_2.out); (case side7 => exact cP (Kd.C_below HR0_3.out HB.out)); (case side8 => exact HC0_3.out); (case side9 => exact cP (Kd.C_below HR0_4.out HB.out)); (case side10 => exact HC0_4.out); rintro e w27 ⟨v613, v616, v619, v622, v625, rfl, ho0, ho1, ho2, ho3, ho4, hb⟩; refine ⟨_, rfl, ?_⟩; have n0_ := Aside0.mk (Kd.R_mono (Kd.R_told (Kd.R_told (Kd.R_told (Kd.R_old (rP HO598.out) hb) (Kd.R_base ho0)) (Kd.R_base ho1)) (Kd.R_base ho2)) (fun _ h_ => h_.1)); have n1_ := Aside0.mk (Kd.R_mono (Kd.R_told (Kd.R_told (Kd.R_told (Kd.R_old (rP HO601.out) hb) (Kd.R_base ho0)) (Kd.R_base ho1)) (Kd.R_base ho2)) (fun _ h_ => h_.1)); have n2_ := Aside0.mk (Kd.R_mono (Kd.R_told (Kd.R_told (Kd.R_told (Kd.R_old (rP HO604.out) hb) (Kd.R_base ho0)) (Kd.R_base ho1)) (Kd.R_base ho2)) (fun _ h_ => h_.1)); have n3_ := Aside0.mk (Kd.S_mono (Kd.S_told (Kd.S_told (Kd.S_told (Kd.S_told (Kd.S_old (sP HO607.out) hb) (Kd.R_base ho0)) (Kd.R_base ho1)) (Kd.R_base ho2)) (Kd.S_base ho3)) (fun _ h_ => h_.1)); have n4_ := Aside0.mk (Kd.S_mono (Kd.S_told (Kd.S_told (Kd.S_told (Kd.S_told (Kd.S_old (sP HO610.out) hb) (Kd.R_base ho0)) (Kd.R_base ho1)) (Kd.R_base ho2)) (Kd.S_base ho4)) (fun _ h_ => h_.1)); have n5_ := Aside0.mk (Kd.R_lower (Kd.R_new' (Kd.R_new' (Kd.R_new' ho0 (Kd.R_lt (rP HO598.out))) (Kd.R_lt (rP HO601.out))) (Kd.R_lt (rP HO604.out))) (below_size (bW))); have n6_ := Aside0.mk (Kd.R_lower (Kd.R_new' (Kd.R_new' (Kd.R_new' ho1 (Kd.R_lt (rP HO598.out))) (Kd.R_lt (rP HO601.out))) (Kd.R_lt (rP HO604.out))) (below_size (bW))); have n7_ := Aside0.mk (Kd.R_lower (Kd.R_new' (Kd.R_new' (Kd.R_new' ho2 (Kd.R_lt (rP HO598.out))) (Kd.R_lt (rP HO601.out))) (Kd.R_lt (rP HO604.out))) (below_size (bW))); have n8_ := Aside0.mk (Kd.S_lower (Kd.S_new' (Kd.S_new' (Kd.S_new' (Kd.S_new' ho3 (Kd.R_lt (rP HO598.out))) (Kd.R_lt (rP HO601.out))) (Kd.R_lt (rP HO604.out))) (Kd.S_lt (sP HO607.out))) (below_size (bW))); have n9_ := Aside0.mk (Kd.S_lower (Kd.S_new' (Kd.S_new' (Kd.S_new' (Kd.S_new' ho4 (Kd.R_lt (rP HO598.out))) (Kd.R_lt (rP HO601.out))) (Kd.R_lt (rP HO604.out))) (Kd.S_lt (sP HO610.out))) (below_size (bW))); have n10_ := Aside0.mk (blkB BK594.out hb); have n11_ := Aside0.mk (below_step (bW) hb); clear HO598; clear HO601; clear HO604; clear HO607; clear HO610; clear BK594; clear HB; have HO598 := n0_; have HO601 := n1_; have HO604 := n2_; have HO607 := n3_; have HO610 := n4_; have HO614 := n5_; have HO617 := n6_; have HO620 := n7_; have HO623 := n8_; have HO626 := n9_; have BK594 := n10_; have HB := n11_; clear n0_ n1_ n2_ n3_ n4_ n5_ n6_ n7_ n8_ n9_ n10_ n11_; (try clear hb); (try clear hb2); (try clear hk); (try clear hi); (try clear ho0); (try clear ho1); (try clear ho2); (try clear ho3); (try clear ho4)) | ((with_reducible refine gate_dst (N := 5) rfl ?_); refine boxS (N := 5) (cs := #[.slice none 0 0, .slice none 0 0, .slice none 0 0, .slice none 0 0, .slice none 0 0]) (t := 65) ?_; intro gb627 hg w28 hbox hb; have n0_ := Aside0.mk (Kd.R_below (rP HO598.out) hb); have n1_ := Aside0.mk (Kd.R_below (rP HO601.out) hb); have n2_ := Aside0.mk (Kd.R_below (rP HO604.out) hb); have n3_ := Aside0.mk (Kd.S_below (sP HO607.out) hb); have n4_ := Aside0.mk (Kd.S_below (sP HO610.out) hb); have n5_ := Aside0.mk (Kd.R_below (rP HO614.out) hb); have n6_ := Aside0.mk (Kd.R_below (rP HO617.out) hb); have n7_ := Aside0.mk (Kd.R_below (rP HO620.out) hb); have n8_ := Aside0.mk (Kd.S_below (sP HO623.out) hb); have n9_ := Aside0.mk (Kd.S_below (sP HO626.out) hb); have n10_ := Aside0.mk (blkB BK594.out hb); have n11_ := Aside0.mk (below_step (bW) hb); have n12_ := Aside0.mk (hbox); have n13_ := geW (w := w) hg; have n14_ := geW (w := w) hg; have n15_ := Aside0.mk ((by rw [hg]; exact Nat.ne_of_lt (blk_lt (g := gb594) (o := .cells #[.slice A0_0 l0_0.length c0_0, .slice A0_1 l0_1.length c0_1, .slice A0_2 l0_2.length c0_2, .slice A0_3 l0_3.length c0_3, .slice A0_4 l0_4.length c0_4] 60 (0, 0)) (bP BK594.out)) : gb594 ≠ gb627)); have n16_ := Aside0.mk ((by rw [hg]; exact Nat.ne_of_gt (blk_lt (g := gb594) (o := .cells #[.slice A0_0 l0_0.length c0_0, .slice A0_1 l0_1.length c0_1, .slice A0_2 l0_2.length c0_2, .slice A0_3 l0_3.length c0_3, .slice A0_4 l0_4.length c0_4] 60 (0, 0)) (bP BK594.out)) : gb627 ≠ gb594)); clear HO598; clear HO601; clear HO604; clear HO607; clear HO610; clear HO614; clear HO617; clear HO620; clear HO623; clear HO626; clear BK594; clear HB; have HO598 := n0_; have HO601 := n1_; have HO604 := n2_; have HO607 := n3_; have HO610 := n4_; have HO614 := n5_; have HO617 := n6_; have HO620 := n7_; have HO623 := n8_; have HO626 := n9_; have BK594 := n10_; have HB := n11_; have BK627 := n12_; have GW627 := n13_; have GE627 := n14_; have NB594_627 := n15_; have NB627_594 := n16_; clear n0_ n1_ n2_ n3_ n4_ n5_ n6_ n7_ n8_ n9_ n10_ n11_ n12_ n13_ n14_ n15_ n16_; clear hb hbox hg; obtain ⟨Ao29, co29, eo29⟩ := Kd.R_slice HO614.out; subst eo29; have hnb30 := NB627_594.out; have hnc30 := NB594_627.out; have hcz31_0 : w28.cell? ⟨gb627, 0, none⟩ = some (.slice none 0 0) := (blk_cell BK627.out 0).trans rfl; have hcz31_1 : w28.cell? ⟨gb627, 1, none⟩ = some (.slice none 0 0) := (blk_cell BK627.out 1).trans rfl; have hcz31_2 : w28.cell? ⟨gb627, 2, none⟩ = some (.slice none 0 0) := (blk_cell BK627.out 2).trans rfl; have hcz31_3 : w28.cell? ⟨gb627, 3, none⟩ = some (.slice none 0 0) := (blk_cell BK627.out 3).trans rfl; have hcz31_4 : w28.cell? ⟨gb627, 4, none⟩ = some (.slice none 0 0) := (blk_cell BK627.out 4).trans rfl; have hfz31_0 := blk_frozen BK627.out 0; have hfz31_1 := blk_frozen BK627.out 1; have hfz31_2 := blk_frozen BK627.out 2; have hfz31_3 := blk_frozen BK627.out 3; have hfz31_4 := blk_frozen BK627.out 4; obtain ⟨Ao32, co32, eo32⟩ := Kd.R_slice HO617.out; subst eo32; obtain ⟨Ao33, co33, eo33⟩ := Kd.R_slice HO620.out; subst eo33; obtain ⟨Ao34, co34, eo34⟩ := Kd.S_slice HO623.out; subst eo34; obtain ⟨Ao35, co35, eo35⟩ := Kd.S_slice HO626.out; subst eo35) | ((with_reducible refine gate_callee (f := 40) rfl ?_); refine goesS (some 18) Tryd.func40 #[.agg #[.slice Ao29 t612.length co29, .slice Ao32 t615.length co32, .slice Ao33 t618.length co33, .slice Ao34 t621.length co34, .slice Ao35 t624.length co35]] ?_; (with_reducible refine (impl_IsAsynchronous.calls k _ _ t612 _ _ t615 _ _ t618 _ _ t621 _ _ t624 t628 _ ?side1 ?side2 ?side3 ?side4 ?side5 ?side6 ?side7 ?side8 ?side9 ?side10 A10.out (tabW HTab.out)).mono ?_); (case side1 => refine (Kd.R_reads' (e := 2) (base := w.heap.size) (ok := fun k_ => ((((some k_ ≠ (.slice Ao32 t615.length co32 : Value).ownBlock ∧ some k_ ≠ (.slice Ao33 t618.length co33 : Value).ownBlock) ∧ some k_ ≠ (.slice Ao20 t596.length co20 : Value).ownBlock) ∧ some k_ ≠ (.slice Ao21 t599.length co21 : Value).ownBlock) ∧ some k_ ≠ (.slice Ao22 t602.length co22 : Value).ownBlock)) (n := t612.length) (c := co29) ?_).2.2; exact (by (with_reducible repeat (first | apply Kd.R_alloc | apply Kd.R_drewN | apply Kd.R_drew)); exact (Kd.R_mono (Kd.R_far (p := ⟨gb627, 4, none⟩) (Kd.R_far (p := ⟨gb627, 3, none⟩) (Kd.R_far (p := ⟨gb627, 2, none⟩) (Kd.R_far (p := ⟨gb627, 1, none⟩) (Kd.R_far (p := ⟨gb627, 0, none⟩) (Kd.R_types HO614.out BK627.out (by decide)) (fun _ hk => hk.2) (.slice Ao29 t612.length co29)) (fun _ hk => hk.2) (.slice Ao32 t615.length co32)) (fun _ hk => hk.2) (.slice Ao33 t618.length co33)) (fun _ hk => hk.2) (.slice Ao34 t621.length co34)) (fun _ hk => hk.2) (.slice Ao35 t624.length co35)) (fun _ h_ => h_.1)))); (case side2 => exact (Kd.R_reads' HO614.out).2.1); (case side3 => refine (Kd.R_reads' (e := 2) (base := w.heap.size) (ok := fun k_ => ((((some k_ ≠ (.slice Ao29 t612.length co29 : Value).ownBlock ∧ some k_ ≠ (.slice Ao33 t618.length co33 : Value).ownBlock) ∧ some k_ ≠ (.slice Ao20 t596.length co20 : Value).ownBlock) ∧ some k_ ≠ (.slice Ao21 t599.length co21 : Value).ownBlock) ∧ some k_ ≠ (.slice Ao22 t602.length co22 : Value).ownBlock)) (n := t615.length) (c := co32) ?_).2.2; exact (by (with_reducible repeat (first | apply Kd.R_alloc | apply Kd.R_drewN | apply Kd.R_drew)); exact (Kd.R_mono (Kd.R_far (p := ⟨gb627, 4, none⟩) (Kd.R_far (p := ⟨gb627, 3, none⟩) (Kd.R_far (p := ⟨gb627, 2, none⟩) (Kd.R_far (p := ⟨gb627, 1, none⟩) (Kd.R_far (p := ⟨gb627, 0, none⟩) (Kd.R_types HO617.out BK627.out (by decide)) (fun _ hk => hk.2) (.slice Ao29 t612.length co29)) (fun _ hk => hk.2) (.slice Ao32 t615.length co32)) (fun _ hk => hk.2) (.slice Ao33 t618.length co33)) (fun _ hk => hk.2) (.slice Ao34 t621.length co34)) (fun _ hk => hk.2) (.slice Ao35 t624.length co35)) (fun _ h_ => h_.1)))); (case side4 => exact (Kd.R_reads' HO617.out).2.1); (case side5 => refine (Kd.R_reads' (e := 2) (base := w.heap.size) (ok := fun k_ => ((((some k_ ≠ (.slice Ao29 t612.length co29 : Value).ownBlock ∧ some k_ ≠ (.slice Ao32 t615.length co32 : Value).ownBlock) ∧ some k_ ≠ (.slice Ao20 t596.length co20 : Value).ownBlock) ∧ some k_ ≠ (.slice Ao21 t599.length co21 : Value).ownBlock) ∧ some k_ ≠ (.slice Ao22 t602.length co22 : Value).ownBlock)) (n := t618.length) (c := co33) ?_).2.2; exact (by (with_reducible repeat (first | apply Kd.R_alloc | apply Kd.R_drewN | apply Kd.R_drew)); exact (Kd.R_mono (Kd.R_far (p := ⟨gb627, 4, none⟩) (Kd.R_far (p := ⟨gb627, 3, none⟩) (Kd.R_far (p := ⟨gb627, 2, none⟩) (Kd.R_far (p := ⟨gb627, 1, none⟩) (Kd.R_far (p := ⟨gb627, 0, none⟩) (Kd.R_types HO620.out BK627.out (by decide)) (fun _ hk => hk.2) (.slice Ao29 t612.length co29)) (fun _ hk => hk.2) (.slice Ao32 t615.length co32)) (fun _ hk => hk.2) (.slice Ao33 t618.length co33)) (fun _ hk => hk.2) (.slice Ao34 t621.length co34)) (fun _ hk => hk.2) (.slice Ao35 t624.length co35)) (fun _ h_ => h_.1)))); (case side6 => exact (Kd.R_reads' HO620.out).2.1); (case side7 => refine (Kd.S_reads' (e := 149) (base := w.heap.size) (ok := fun k_ => (((((some k_ ≠ (.slice Ao29 t612.length co29 : Value).ownBlock ∧ (some k_ ≠ (.slice Ao32 t615.length co32 : Value).ownBlock ∧ some k_ ≠ (.slice Ao33 t618.length co33 : Value).ownBlock)) ∧ some k_ ≠ (.slice Ao20 t596.length co20 : Value).ownBlock) ∧ some k_ ≠ (.slice Ao21 t599.length co21 : Value).ownBlock) ∧ some k_ ≠ (.slice Ao22 t602.length co22 : Value).ownBlock) ∧ some k_ ≠ (.slice Ao23 t605.length co23 : Value).ownBlock)) (n := t621.length) (c := co34) ?_).2.2; exact (by (with_reducible repeat (first | apply Kd.S_alloc | apply Kd.S_drewN | apply Kd.S_drew)); exact (Kd.S_mono (Kd.S_far (p := ⟨gb627, 4, none⟩) (Kd.S_far (p := ⟨gb627, 3, none⟩) (Kd.S_far (p := ⟨gb627, 2, none⟩) (Kd.S_far (p := ⟨gb627, 1, none⟩) (Kd.S_far (p := ⟨gb627, 0, none⟩) (Kd.S_types HO623.out BK627.out (by decide)) (fun _ hk => hk.2) (.slice Ao29 t612.length co29)) (fun _ hk => hk.2) (.slice Ao32 t615.length co32)) (fun _ hk => hk.2) (.slice Ao33 t618.length co33)) (fun _ hk => hk.2) (.slice Ao34 t621.length co34)) (fun _ hk => hk.2) (.slice Ao35 t624.length co35)) (fun _ h_ => h_.1)))); (case side8 => exact (Kd.S_reads' HO623.out).2.1); (case side9 => refine (Kd.S_reads' (e := 22) (base := w.heap.size) (ok := fun k_ => (((((some k_ ≠ (.slice Ao29 t612.length co29 : Value).ownBlock ∧ (some k_ ≠ (.slice Ao32 t615.length co32 : Value).ownBlock ∧ some k_ ≠ (.slice Ao33 t618.length co33 : Value).ownBlock)) ∧ some k_ ≠ (.slice Ao20 t596.length co20 : Value).ownBlock) ∧ some k_ ≠ (.slice Ao21 t599.length co21 : Value).ownBlock) ∧ some k_ ≠ (.slice Ao22 t602.length co22 : Value).ownBlock) ∧ some k_ ≠ (.slice Ao24 t608.length co24 : Value).ownBlock)) (n := t624.length) (c := co35) ?_).2.2; exact (by (with_reducible repeat (first | apply Kd.S_alloc | apply Kd.S_drewN | apply Kd.S_drew)); exact (Kd.S_mono (Kd.S_far (p := ⟨gb627, 4, none⟩) (Kd.S_far (p := ⟨gb627, 3, none⟩) (Kd.S_far (p := ⟨gb627, 2, none⟩) (Kd.S_far (p := ⟨gb627, 1, none⟩) (Kd.S_far (p := ⟨gb627, 0, none⟩) (Kd.S_types HO626.out BK627.out (by decide)) (fun _ hk => hk.2) (.slice Ao29 t612.length co29)) (fun _ hk => hk.2) (.slice Ao32 t615.length co32)) (fun _ hk => hk.2) (.slice Ao33 t618.length co33)) (fun _ hk => hk.2) (.slice Ao34 t621.length co34)) (fun _ hk => hk.2) (.slice Ao35 t624.length co35)) (fun _ h_ => h_.1)))); (case side10 => exact (Kd.S_reads' HO626.out).2.1); rintro e w36 ⟨rfl, hb⟩; refine ⟨_, rfl, ?_⟩; have n0_ := Aside0.mk (Kd.R_below (by (with_reducible repeat (first | apply Kd.R_alloc | apply Kd.R_drewN | apply Kd.R_drew)); exact (Kd.R_mono (Kd.R_far (p := ⟨gb627, 4, none⟩) (Kd.R_far (p := ⟨gb627, 3, none⟩) (Kd.R_far (p := ⟨gb627, 2, none⟩) (Kd.R_far (p := ⟨gb627, 1, none⟩) (Kd.R_far (p := ⟨gb627, 0, none⟩) (Kd.R_types HO598.out BK627.out (by decide)) (fun _ hk => hk.2) (.slice Ao29 t612.length co29)) (fun _ hk => hk.2) (.slice Ao32 t615.length co32)) (fun _ hk => hk.2) (.slice Ao33 t618.length co33)) (fun _ hk => hk.2) (.slice Ao34 t621.length co34)) (fun _ hk => hk.2) (.slice Ao35 t624.length co35)) (fun _ h_ => h_.1))) hb); have n1_ := Aside0.mk (Kd.R_below (by (with_reducible repeat (first | apply Kd.R_alloc | apply Kd.R_drewN | apply Kd.R_drew)); exact (Kd.R_mono (Kd.R_far (p := ⟨gb627, 4, none⟩) (Kd.R_far (p := ⟨gb627, 3, none⟩) (Kd.R_far (p := ⟨gb627, 2, none⟩) (Kd.R_far (p := ⟨gb627, 1, none⟩) (Kd.R_far (p := ⟨gb627, 0, none⟩) (Kd.R_types HO601.out BK627.out (by decide)) (fun _ hk => hk.2) (.slice Ao29 t612.length co29)) (fun _ hk => hk.2) (.slice Ao32 t615.length co32)) (fun _ hk => hk.2) (.slice Ao33 t618.length co33)) (fun _ hk => hk.2) (.slice Ao34 t621.length co34)) (fun _ hk => hk.2) (.slice Ao35 t624.length co35)) (fun _ h_ => h_.1))) hb); have n2_ := Aside0.mk (Kd.R_below (by (with_reducible repeat (first | apply Kd.R_alloc | apply Kd.R_drewN | apply Kd.R_drew)); exact (Kd.R_mono (Kd.R_far (p := ⟨gb627, 4, none⟩) (Kd.R_far (p := ⟨gb627, 3, none⟩) (Kd.R_far (p := ⟨gb627, 2, none⟩) (Kd.R_far (p := ⟨gb627, 1, none⟩) (Kd.R_far (p := ⟨gb627, 0, none⟩) (Kd.R_types HO604.out BK627.out (by decide)) (fun _ hk => hk.2) (.slice Ao29 t612.length co29)) (fun _ hk => hk.2) (.slice Ao32 t615.length co32)) (fun _ hk => hk.2) (.slice Ao33 t618.length co33)) (fun _ hk => hk.2) (.slice Ao34 t621.length co34)) (fun _ hk => hk.2) (.slice Ao35 t624.length co35)) (fun _ h_ => h_.1))) hb); have n3_ := Aside0.mk (Kd.S_below (by (with_reducible repeat (first | apply Kd.S_alloc | apply Kd.S_drewN | apply Kd.S_drew)); exact (Kd.S_mono (Kd.S_far (p := ⟨gb627, 4, none⟩) (Kd.S_far (p := ⟨gb627, 3, none⟩) (Kd.S_far (p := ⟨gb627, 2, none⟩) (Kd.S_far (p := ⟨gb627, 1, none⟩) (Kd.S_far (p := ⟨gb627, 0, none⟩) (Kd.S_types HO607.out BK627.out (by decide)) (fun _ hk => hk.2) (.slice Ao29 t612.length co29)) (fun _ hk => hk.2) (.slice Ao32 t615.length co32)) (fun _ hk => hk.2) (.slice Ao33 t618.length co33)) (fun _ hk => hk.2) (.slice Ao34 t621.length co34)) (fun _ hk => hk.2) (.slice Ao35 t624.length co35)) (fun _ h_ => h_.1))) hb); have n4_ := Aside0.mk (Kd.S_below (by (with_reducible repeat (first | apply Kd.S_alloc | apply Kd.S_drewN | apply Kd.S_drew)); exact (Kd.S_mono (Kd.S_far (p := ⟨gb627, 4, none⟩) (Kd.S_far (p := ⟨gb627, 3, none⟩) (Kd.S_far (p := ⟨gb627, 2, none⟩) (Kd.S_far (p := ⟨gb627, 1, none⟩) (Kd.S_far (p := ⟨gb627, 0, none⟩) (Kd.S_types HO610.out BK627.out (by decide)) (fun _ hk => hk.2) (.slice Ao29 t612.length co29)) (fun _ hk => hk.2) (.slice Ao32 t615.length co32)) (fun _ hk => hk.2) (.slice Ao33 t618.length co33)) (fun _ hk => hk.2) (.slice Ao34 t621.length co34)) (fun _ hk => hk.2) (.slice Ao35 t624.length co35)) (fun _ h_ => h_.1))) hb); have n5_ := Aside0.mk (Kd.R_below (by (with_reducible repeat (first | apply Kd.R_alloc | apply Kd.R_drewN | apply Kd.R_drew)); exact (Kd.R_mono (Kd.R_far (p := ⟨gb627, 4, none⟩) (Kd.R_far (p := ⟨gb627, 3, none⟩) (Kd.R_far (p := ⟨gb627, 2, none⟩) (Kd.R_far (p := ⟨gb627, 1, none⟩) (Kd.R_far (p := ⟨gb627, 0, none⟩) (Kd.R_types HO614.out BK627.out (by decide)) (fun _ hk => hk.2) (.slice Ao29 t612.length co29)) (fun _ hk => hk.2) (.slice Ao32 t615.length co32)) (fun _ hk => hk.2) (.slice Ao33 t618.length co33)) (fun _ hk => hk.2) (.slice Ao34 t621.length co34)) (fun _ hk => hk.2) (.slice Ao35 t624.length co35)) (fun _ h_ => h_.1))) hb); have n6_ := Aside0.mk (Kd.R_below (by (with_reducible repeat (first | apply Kd.R_alloc | apply Kd.R_drewN | apply Kd.R_drew)); exact (Kd.R_mono (Kd.R_far (p := ⟨gb627, 4, none⟩) (Kd.R_far (p := ⟨gb627, 3, none⟩) (Kd.R_far (p := ⟨gb627, 2, none⟩) (Kd.R_far (p := ⟨gb627, 1, none⟩) (Kd.R_far (p := ⟨gb627, 0, none⟩) (Kd.R_types HO617.out BK627.out (by decide)) (fun _ hk => hk.2) (.slice Ao29 t612.length co29)) (fun _ hk => hk.2) (.slice Ao32 t615.length co32)) (fun _ hk => hk.2) (.slice Ao33 t618.length co33)) (fun _ hk => hk.2) (.slice Ao34 t621.length co34)) (fun _ hk => hk.2) (.slice Ao35 t624.length co35)) (fun _ h_ => h_.1))) hb); have n7_ := Aside0.mk (Kd.R_below (by (with_reducible repeat (first | apply Kd.R_alloc | apply Kd.R_drewN | apply Kd.R_drew)); exact (Kd.R_mono (Kd.R_far (p := ⟨gb627, 4, none⟩) (Kd.R_far (p := ⟨gb627, 3, none⟩) (Kd.R_far (p := ⟨gb627, 2, none⟩) (Kd.R_far (p := ⟨gb627, 1, none⟩) (Kd.R_far (p := ⟨gb627, 0, none⟩) (Kd.R_types HO620.out BK627.out (by decide)) (fun _ hk => hk.2) (.slice Ao29 t612.length co29)) (fun _ hk => hk.2) (.slice Ao32 t615.length co32)) (fun _ hk => hk.2) (.slice Ao33 t618.length co33)) (fun _ hk => hk.2) (.slice Ao34 t621.length co34)) (fun _ hk => hk.2) (.slice Ao35 t624.length co35)) (fun _ h_ => h_.1))) hb); have n8_ := Aside0.mk (Kd.S_below (by (with_reducible repeat (first | apply Kd.S_alloc | apply Kd.S_drewN | apply Kd.S_drew)); exact (Kd.S_mono (Kd.S_far (p := ⟨gb627, 4, none⟩) (Kd.S_far (p := ⟨gb627, 3, none⟩) (Kd.S_far (p := ⟨gb627, 2, none⟩) (Kd.S_far (p := ⟨gb627, 1, none⟩) (Kd.S_far (p := ⟨gb627, 0, none⟩) (Kd.S_types HO623.out BK627.out (by decide)) (fun _ hk => hk.2) (.slice Ao29 t612.length co29)) (fun _ hk => hk.2) (.slice Ao32 t615.length co32)) (fun _ hk => hk.2) (.slice Ao33 t618.length co33)) (fun _ hk => hk.2) (.slice Ao34 t621.length co34)) (fun _ hk => hk.2) (.slice Ao35 t624.length co35)) (fun _ h_ => h_.1))) hb); have n9_ := Aside0.mk (Kd.S_below (by (with_reducible repeat (first | apply Kd.S_alloc | apply Kd.S_drewN | apply Kd.S_drew)); exact (Kd.S_mono (Kd.S_far (p := ⟨gb627, 4, none⟩) (Kd.S_far (p := ⟨gb627, 3, none⟩) (Kd.S_far (p := ⟨gb627, 2, none⟩) (Kd.S_far (p := ⟨gb627, 1, none⟩) (Kd.S_far (p := ⟨gb627, 0, none⟩) (Kd.S_types HO626.out BK627.out (by decide)) (fun _ hk => hk.2) (.slice Ao29 t612.length co29)) (fun _ hk => hk.2) (.slice Ao32 t615.length co32)) (fun _ hk => hk.2) (.slice Ao33 t618.length co33)) (fun _ hk => hk.2) (.slice Ao34 t621.length co34)) (fun _ hk => hk.2) (.slice Ao35 t624.length co35)) (fun _ h_ => h_.1))) hb); have n10_ := Aside0.mk (blk_below (g := gb594) (o := .cells #[.slice A0_0 l0_0.length c0_0, .slice A0_1 l0_1.length c0_1, .slice A0_2 l0_2.length c0_2, .slice A0_3 l0_3.length c0_3, .slice A0_4 l0_4.length c0_4] 60 (0, 0)) (by (with_reducible repeat (first | refine blk_drewN ?_ _ | refine blk_drew ?_ | refine blk_alloc ?_ _)); refine blk_far ?_ NB594_627.out _; (with_reducible repeat (first | refine blk_drewN ?_ _ | refine blk_drew ?_ | refine blk_alloc ?_ _)); refine blk_far ?_ NB594_627.out _; (with_reducible repeat (first | refine blk_drewN ?_ _ | refine blk_drew ?_ | refine blk_alloc ?_ _)); refine blk_far ?_ NB594_627.out _; (with_reducible repeat (first | refine blk_drewN ?_ _ | refine blk_drew ?_ | refine blk_alloc ?_ _)); refine blk_far ?_ NB594_627.out _; (with_reducible repeat (first | refine blk_drewN ?_ _ | refine blk_drew ?_ | refine blk_alloc ?_ _)); refine blk_far ?_ NB594_627.out _; exact bP BK594.out) hb); have n11_ := Aside0.mk (blk_below (g := gb627) (o := .cells #[.slice Ao29 t612.length co29, .slice Ao32 t615.length co32, .slice Ao33 t618.length co33, .slice Ao34 t621.length co34, .slice Ao35 t624.length co35] 65 (0, 0)) (by (with_reducible repeat (first | refine blk_drewN ?_ _ | refine blk_drew ?_ | refine blk_alloc ?_ _)); refine blk_put (cs := #[.slice Ao29 t612.length co29, .slice Ao32 t615.length co32, .slice Ao33 t618.length co33, .slice Ao34 t621.length co34, .slice none 0 0]) ?_ 4 _ rfl; (with_reducible repeat (first | refine blk_drewN ?_ _ | refine blk_drew ?_ | refine blk_alloc ?_ _)); refine blk_put (cs := #[.slice Ao29 t612.length co29, .slice Ao32 t615.length co32, .slice Ao33 t618.length co33, .slice none 0 0, .slice none 0 0]) ?_ 3 _ rfl; (with_reducible repeat (first | refine blk_drewN ?_ _ | refine blk_drew ?_ | refine blk_alloc ?_ _)); refine blk_put (cs := #[.slice Ao29 t612.length co29, .slice Ao32 t615.length co32, .slice none 0 0, .slice none 0 0, .slice none 0 0]) ?_ 2 _ rfl; (with_reducible repeat (first | refine blk_drewN ?_ _ | refine blk_drew ?_ | refine blk_alloc ?_ _)); refine blk_put (cs := #[.slice Ao29 t612.length co29, .slice none 0 0, .slice none 0 0, .slice none 0 0, .slice none 0 0]) ?_ 1 _ rfl; (with_reducible repeat (first | refine blk_drewN ?_ _ | refine blk_drew ?_ | refine blk_alloc ?_ _)); refine blk_put (cs := #[.slice none 0 0, .slice none 0 0, .slice none 0 0, .slice none 0 0, .slice none 0 0]) ?_ 0 _ rfl; exact bP BK627.out) hb); have n12_ := Aside0.mk (below_step (bW) hb); clear HO598; clear HO601; clear HO604; clear HO607; clear HO610; clear HO614; clear HO617; clear HO620; clear HO623; clear HO626; clear BK594; clear BK627; clear HB; have HO598 := n0_; have HO601 := n1_; have HO604 := n2_; have HO607 := n3_; have HO610 := n4_; have HO614 := n5_; have HO617 := n6_; have HO620 := n7_; have HO623 := n8_; have HO626 := n9_; have BK594 := n10_; have BK627 := n11_; have HB := n12_; clear n0_ n1_ n2_ n3_ n4_ n5_ n6_ n7_ n8_ n9_ n10_ n11_ n12_; (try clear hb); (try clear hb2); (try clear hk); (try clear hi)))
    have n0_ := Aside0.mk (Kd.R_drew HO598.out)
    have n1_ := Aside0.mk (Kd.R_drew HO601.out)
    have n2_ := Aside0.mk (Kd.R_drew HO604.out)
    have n3_ := Aside0.mk (Kd.S_drew HO607.out)
    have n4_ := Aside0.mk (Kd.S_drew HO610.out)
    have n5_ := Aside0.mk (Kd.R_drew HO614.out)
    have n6_ := Aside0.mk (Kd.R_drew HO617.out)
    have n7_ := Aside0.mk (Kd.R_drew HO620.out)
    have n8_ := Aside0.mk (Kd.S_drew HO623.out)
    have n9_ := Aside0.mk (Kd.S_drew HO626.out)
    have n10_ := Aside0.mk (blk_drew BK594.out)
    have n11_ := Aside0.mk (blk_drew BK627.out)
    have n12_ := Aside0.mk (below_drew1 HB.out)
    clear HO598
    clear HO601
    clear HO604
    clear HO607
    clear HO610
    clear HO614
    clear HO617
    clear HO620
    clear HO623
    clear HO626
    clear BK594
    clear BK627
    clear HB
    have HO598 := n0_
    have HO601 := n1_
    have HO604 := n2_
    have HO607 := n3_
    have HO610 := n4_
    have HO614 := n5_
    have HO617 := n6_
    have HO620 := n7_
    have HO623 := n8_
    have HO626 := n9_
    have BK594 := n10_
    have BK627 := n11_
    have HB := n12_
    clear n0_ n1_ n2_ n3_ n4_ n5_ n6_ n7_ n8_ n9_ n10_ n11_ n12_
    refine start_ (n := 5) (S := fun w' => w'.cell? ⟨gb627, 0, none⟩ = some (.slice Ao29 t612.length co29) ∧ w'.cell? ⟨gb627, 1, none⟩ = some (.slice Ao32 t615.length co32) ∧ w'.cell? ⟨gb627, 2, none⟩ = some (.slice Ao33 t618.length co33) ∧ w'.cell? ⟨gb627, 3, none⟩ = some (.slice Ao34 t621.length co34) ∧ w'.cell? ⟨gb627, 4, none⟩ = some (.slice Ao35 t624.length co35) ∧ w'.cell? ⟨gb594, 0, none⟩ = some (.slice A0_0 l0_0.length c0_0) ∧ w'.cell? ⟨gb594, 1, none⟩ = some (.slice A0_1 l0_1.length c0_1) ∧ w'.cell? ⟨gb594, 2, none⟩ = some (.slice A0_2 l0_2.length c0_2) ∧ w'.cell? ⟨gb594, 3, none⟩ = some (.slice A0_3 l0_3.length c0_3) ∧ w'.cell? ⟨gb594, 4, none⟩ = some (.slice A0_4 l0_4.length c0_4)) (ds := []) #[false, false, false, false, false] (by kernel_rfl) rfl rfl ⟨(blk_cell BK627.out 0).trans rfl, (blk_cell BK627.out 1).trans rfl, (blk_cell BK627.out 2).trans rfl, (blk_cell BK627.out 3).trans rfl, (blk_cell BK627.out 4).trans rfl, (blk_cell BK594.out 0).trans rfl, (blk_cell BK594.out 1).trans rfl, (blk_cell BK594.out 2).trans rfl, (blk_cell BK594.out 3).trans rfl, (blk_cell BK594.out 4).trans rfl⟩ (fun hHeld => ?_)
    generalize w36.drew = w37 at HO598 HO601 HO604 HO607 HO610 HO614 HO617 HO620 HO623 HO626 BK594 BK627 HB hHeld ⊢
    refine takeS (i := 0) (N := some 22) (by kernel_rfl) hHeld ?_
    refine takeS (i := 1) (N := some 23) (by kernel_rfl) hHeld ?_
    refine one_ (i := 2) (N := some 24) #[true, true, true, false, false] rfl rfl (by kernel_rfl) (by decide) (fun K hK => ?_)
    refine goes_ Tryd.func39 (by kernel_rfl) rfl #[.agg #[.slice A0_0 l0_0.length c0_0, .slice A0_1 l0_1.length c0_1, .slice A0_2 l0_2.length c0_2, .slice A0_3 l0_3.length c0_3, .slice A0_4 l0_4.length c0_4]] (by rfl) rfl rfl (by (try simp only [List.map_toArray, List.map_cons, List.map_nil]); first | done | rfl | (simp only [List.length_drop, List.length_take]; rfl)) ?_
    with_reducible refine (laws_toAsynchronous.calls k _ _ l0_0 _ _ l0_1 _ _ l0_2 _ _ l0_3 _ _ l0_4 t629 t632 t635 t638 t641 _ ?side1 ?side2 ?side3 ?side4 ?side5 ?side6 ?side7 ?side8 ?side9 ?side10 A12.out).mono ?_
    (case side1 => exact cP (Kd.C_below HR0_0.out HB.out))
    (case side2 => exact HC0_0.out)
    (case side3 => exact cP (Kd.C_below HR0_1.out HB.out))
    (case side4 => exact HC0_1.out)
    (case side5 => exact cP (Kd.C_below HR0_2.out HB.out))
    (case side6 => exact HC0_2.out)
    (case side7 => exact cP (Kd.C_below HR0_3.out HB.out))
    (case side8 => exact HC0_3.out)
    (case side9 => exact cP (Kd.C_below HR0_4.out HB.out))
    (case side10 => exact HC0_4.out)
    rintro e w38 ⟨v630, v633, v636, v639, v642, rfl, ho0, ho1, ho2, ho3, ho4, hb⟩
    refine ⟨_, rfl, ?_⟩
    have n0_ := Aside0.mk (Kd.R_mono (Kd.R_told (Kd.R_told (Kd.R_told (Kd.R_old (rP HO598.out) hb) (Kd.R_base ho0)) (Kd.R_base ho1)) (Kd.R_base ho2)) (fun _ h_ => h_.1))
    have n1_ := Aside0.mk (Kd.R_mono (Kd.R_told (Kd.R_told (Kd.R_told (Kd.R_old (rP HO601.out) hb) (Kd.R_base ho0)) (Kd.R_base ho1)) (Kd.R_base ho2)) (fun _ h_ => h_.1))
    have n2_ := Aside0.mk (Kd.R_mono (Kd.R_told (Kd.R_told (Kd.R_told (Kd.R_old (rP HO604.out) hb) (Kd.R_base ho0)) (Kd.R_base ho1)) (Kd.R_base ho2)) (fun _ h_ => h_.1))
    have n3_ := Aside0.mk (Kd.S_mono (Kd.S_told (Kd.S_told (Kd.S_told (Kd.S_told (Kd.S_old (sP HO607.out) hb) (Kd.R_base ho0)) (Kd.R_base ho1)) (Kd.R_base ho2)) (Kd.S_base ho3)) (fun _ h_ => h_.1))
    have n4_ := Aside0.mk (Kd.S_mono (Kd.S_told (Kd.S_told (Kd.S_told (Kd.S_told (Kd.S_old (sP HO610.out) hb) (Kd.R_base ho0)) (Kd.R_base ho1)) (Kd.R_base ho2)) (Kd.S_base ho4)) (fun _ h_ => h_.1))
    have n5_ := Aside0.mk (Kd.R_mono (Kd.R_told (Kd.R_told (Kd.R_told (Kd.R_old (rP HO614.out) hb) (Kd.R_base ho0)) (Kd.R_base ho1)) (Kd.R_base ho2)) (fun _ h_ => h_.1))
    have n6_ := Aside0.mk (Kd.R_mono (Kd.R_told (Kd.R_told (Kd.R_told (Kd.R_old (rP HO617.out) hb) (Kd.R_base ho0)) (Kd.R_base ho1)) (Kd.R_base ho2)) (fun _ h_ => h_.1))
    have n7_ := Aside0.mk (Kd.R_mono (Kd.R_told (Kd.R_told (Kd.R_told (Kd.R_old (rP HO620.out) hb) (Kd.R_base ho0)) (Kd.R_base ho1)) (Kd.R_base ho2)) (fun _ h_ => h_.1))
    have n8_ := Aside0.mk (Kd.S_mono (Kd.S_told (Kd.S_told (Kd.S_told (Kd.S_told (Kd.S_old (sP HO623.out) hb) (Kd.R_base ho0)) (Kd.R_base ho1)) (Kd.R_base ho2)) (Kd.S_base ho3)) (fun _ h_ => h_.1))
    have n9_ := Aside0.mk (Kd.S_mono (Kd.S_told (Kd.S_told (Kd.S_told (Kd.S_told (Kd.S_old (sP HO626.out) hb) (Kd.R_base ho0)) (Kd.R_base ho1)) (Kd.R_base ho2)) (Kd.S_base ho4)) (fun _ h_ => h_.1))
    have n10_ := Aside0.mk (Kd.R_lower (Kd.R_new' (Kd.R_new' (Kd.R_new' (Kd.R_new' (Kd.R_new' (Kd.R_new' ho0 (Kd.R_lt (rP HO598.out))) (Kd.R_lt (rP HO601.out))) (Kd.R_lt (rP HO604.out))) (Kd.R_lt (rP HO614.out))) (Kd.R_lt (rP HO617.out))) (Kd.R_lt (rP HO620.out))) (below_size (bW)))
    have n11_ := Aside0.mk (Kd.R_lower (Kd.R_new' (Kd.R_new' (Kd.R_new' (Kd.R_new' (Kd.R_new' (Kd.R_new' ho1 (Kd.R_lt (rP HO598.out))) (Kd.R_lt (rP HO601.out))) (Kd.R_lt (rP HO604.out))) (Kd.R_lt (rP HO614.out))) (Kd.R_lt (rP HO617.out))) (Kd.R_lt (rP HO620.out))) (below_size (bW)))
    have n12_ := Aside0.mk (Kd.R_lower (Kd.R_new' (Kd.R_new' (Kd.R_new' (Kd.R_new' (Kd.R_new' (Kd.R_new' ho2 (Kd.R_lt (rP HO598.out))) (Kd.R_lt (rP HO601.out))) (Kd.R_lt (rP HO604.out))) (Kd.R_lt (rP HO614.out))) (Kd.R_lt (rP HO617.out))) (Kd.R_lt (rP HO620.out))) (below_size (bW)))
    have n13_ := Aside0.mk (Kd.S_lower (Kd.S_new' (Kd.S_new' (Kd.S_new' (Kd.S_new' (Kd.S_new' (Kd.S_new' (Kd.S_new' (Kd.S_new' ho3 (Kd.R_lt (rP HO598.out))) (Kd.R_lt (rP HO601.out))) (Kd.R_lt (rP HO604.out))) (Kd.S_lt (sP HO607.out))) (Kd.R_lt (rP HO614.out))) (Kd.R_lt (rP HO617.out))) (Kd.R_lt (rP HO620.out))) (Kd.S_lt (sP HO623.out))) (below_size (bW)))
    have n14_ := Aside0.mk (Kd.S_lower (Kd.S_new' (Kd.S_new' (Kd.S_new' (Kd.S_new' (Kd.S_new' (Kd.S_new' (Kd.S_new' (Kd.S_new' ho4 (Kd.R_lt (rP HO598.out))) (Kd.R_lt (rP HO601.out))) (Kd.R_lt (rP HO604.out))) (Kd.S_lt (sP HO610.out))) (Kd.R_lt (rP HO614.out))) (Kd.R_lt (rP HO617.out))) (Kd.R_lt (rP HO620.out))) (Kd.S_lt (sP HO626.out))) (below_size (bW)))
    have n15_ := Aside0.mk (blkB BK594.out hb)
    have n16_ := Aside0.mk (blkB BK627.out hb)
    have n17_ := Aside0.mk (below_step (bW) hb)
    clear HO598
    clear HO601
    clear HO604
    clear HO607
    clear HO610
    clear HO614
    clear HO617
    clear HO620
    clear HO623
    clear HO626
    clear BK594
    clear BK627
    clear HB
    have HO598 := n0_
    have HO601 := n1_
    have HO604 := n2_
    have HO607 := n3_
    have HO610 := n4_
    have HO614 := n5_
    have HO617 := n6_
    have HO620 := n7_
    have HO623 := n8_
    have HO626 := n9_
    have HO631 := n10_
    have HO634 := n11_
    have HO637 := n12_
    have HO640 := n13_
    have HO643 := n14_
    have BK594 := n15_
    have BK627 := n16_
    have HB := n17_
    clear n0_ n1_ n2_ n3_ n4_ n5_ n6_ n7_ n8_ n9_ n10_ n11_ n12_ n13_ n14_ n15_ n16_ n17_
    (try clear hb)
    (try clear hb2)
    (try clear hk)
    (try clear hi)
    (try clear ho0)
    (try clear ho1)
    (try clear ho2)
    (try clear ho3)
    (try clear ho4)
    obtain ⟨Ao39, co39, eo39⟩ := Kd.R_slice HO631.out
    (first | subst eo39 | (injection eo39 with f1_ f2_ f3_; have f4_ := f1_.symm; have f5_ := f3_.symm; clear f1_ f2_ f3_; subst f4_; subst f5_))
    obtain ⟨Ao40, co40, eo40⟩ := Kd.R_slice HO634.out
    (first | subst eo40 | (injection eo40 with f1_ f2_ f3_; have f4_ := f1_.symm; have f5_ := f3_.symm; clear f1_ f2_ f3_; subst f4_; subst f5_))
    obtain ⟨Ao41, co41, eo41⟩ := Kd.R_slice HO637.out
    (first | subst eo41 | (injection eo41 with f1_ f2_ f3_; have f4_ := f1_.symm; have f5_ := f3_.symm; clear f1_ f2_ f3_; subst f4_; subst f5_))
    obtain ⟨Ao42, co42, eo42⟩ := Kd.S_slice HO640.out
    (first | subst eo42 | (injection eo42 with f1_ f2_ f3_; have f4_ := f1_.symm; have f5_ := f3_.symm; clear f1_ f2_ f3_; subst f4_; subst f5_))
    obtain ⟨Ao43, co43, eo43⟩ := Kd.S_slice HO643.out
    (first | subst eo43 | (injection eo43 with f1_ f2_ f3_; have f4_ := f1_.symm; have f5_ := f3_.symm; clear f1_ f2_ f3_; subst f4_; subst f5_))
    refine hK.out _ _ ⟨(blk_cell BK627.out 0).trans rfl, (blk_cell BK627.out 1).trans rfl, (blk_cell BK627.out 2).trans rfl, (blk_cell BK627.out 3).trans rfl, (blk_cell BK627.out 4).trans rfl, (blk_cell BK594.out 0).trans rfl, (blk_cell BK594.out 1).trans rfl, (blk_cell BK594.out 2).trans rfl, (blk_cell BK594.out 3).trans rfl, (blk_cell BK594.out 4).trans rfl⟩ (fun hHeld => ?_)
    clear hK K
    refine norm_ (a' := ?_) ?_ ?_
    rotate_left
    ·show Act.put _ (some 24) _ = _
     simp only [Act.put, List.setIfInBounds_toArray, List.set_cons_zero, List.set_cons_succ, i64_w, i32_w]
     rfl
    refine one_ (i := 3) (N := some 25) #[true, true, true, true, false] rfl rfl (by kernel_rfl) (by decide) (fun K hK => ?_)
    refine goes_ Tryd.func41 (by kernel_rfl) rfl #[.agg #[.slice Ao29 t612.length co29, .slice Ao32 t615.length co32, .slice Ao33 t618.length co33, .slice Ao34 t621.length co34, .slice Ao35 t624.length co35], .agg #[.slice Ao39 t629.length co39, .slice Ao40 t632.length co40, .slice Ao41 t635.length co41, .slice Ao42 t638.length co42, .slice Ao43 t641.length co43]] (by rfl) rfl rfl (by (try simp only [List.map_toArray, List.map_cons, List.map_nil]); first | done | rfl | (simp only [List.length_drop, List.length_take]; rfl)) ?_
    with_reducible refine (laws_eqAsynchronous.calls k _ _ t612 _ _ t615 _ _ t618 _ _ t621 _ _ t624 _ _ t629 _ _ t632 _ _ t635 _ _ t638 _ _ t641 true _ ?side1 ?side2 ?side3 ?side4 ?side5 ?side6 ?side7 ?side8 ?side9 ?side10 ?side11 ?side12 ?side13 ?side14 ?side15 ?side16 ?side17 ?side18 ?side19 ?side20 A13.out).mono ?_
    (case side1 => exact cP ((Kd.R_reads' HO614.out).2.2))
    (case side2 => exact (Kd.R_reads' HO614.out).2.1)
    (case side3 => exact cP ((Kd.R_reads' HO617.out).2.2))
    (case side4 => exact (Kd.R_reads' HO617.out).2.1)
    (case side5 => exact cP ((Kd.R_reads' HO620.out).2.2))
    (case side6 => exact (Kd.R_reads' HO620.out).2.1)
    (case side7 => exact cP ((Kd.S_reads' HO623.out).2.2))
    (case side8 => exact (Kd.S_reads' HO623.out).2.1)
    (case side9 => exact cP ((Kd.S_reads' HO626.out).2.2))
    (case side10 => exact (Kd.S_reads' HO626.out).2.1)
    (case side11 => exact cP ((Kd.R_reads' HO631.out).2.2))
    (case side12 => exact (Kd.R_reads' HO631.out).2.1)
    (case side13 => exact cP ((Kd.R_reads' HO634.out).2.2))
    (case side14 => exact (Kd.R_reads' HO634.out).2.1)
    (case side15 => exact cP ((Kd.R_reads' HO637.out).2.2))
    (case side16 => exact (Kd.R_reads' HO637.out).2.1)
    (case side17 => exact cP ((Kd.S_reads' HO640.out).2.2))
    (case side18 => exact (Kd.S_reads' HO640.out).2.1)
    (case side19 => exact cP ((Kd.S_reads' HO643.out).2.2))
    (case side20 => exact (Kd.S_reads' HO643.out).2.1)
    rintro e w44 ⟨rfl, hb⟩
    refine ⟨_, rfl, ?_⟩
    have n0_ := Aside0.mk (Kd.R_below (rP HO598.out) hb)
    have n1_ := Aside0.mk (Kd.R_below (rP HO601.out) hb)
    have n2_ := Aside0.mk (Kd.R_below (rP HO604.out) hb)
    have n3_ := Aside0.mk (Kd.S_below (sP HO607.out) hb)
    have n4_ := Aside0.mk (Kd.S_below (sP HO610.out) hb)
    have n5_ := Aside0.mk (Kd.R_below (rP HO614.out) hb)
    have n6_ := Aside0.mk (Kd.R_below (rP HO617.out) hb)
    have n7_ := Aside0.mk (Kd.R_below (rP HO620.out) hb)
    have n8_ := Aside0.mk (Kd.S_below (sP HO623.out) hb)
    have n9_ := Aside0.mk (Kd.S_below (sP HO626.out) hb)
    have n10_ := Aside0.mk (Kd.R_below (rP HO631.out) hb)
    have n11_ := Aside0.mk (Kd.R_below (rP HO634.out) hb)
    have n12_ := Aside0.mk (Kd.R_below (rP HO637.out) hb)
    have n13_ := Aside0.mk (Kd.S_below (sP HO640.out) hb)
    have n14_ := Aside0.mk (Kd.S_below (sP HO643.out) hb)
    have n15_ := Aside0.mk (blkB BK594.out hb)
    have n16_ := Aside0.mk (blkB BK627.out hb)
    have n17_ := Aside0.mk (below_step (bW) hb)
    clear HO598
    clear HO601
    clear HO604
    clear HO607
    clear HO610
    clear HO614
    clear HO617
    clear HO620
    clear HO623
    clear HO626
    clear HO631
    clear HO634
    clear HO637
    clear HO640
    clear HO643
    clear BK594
    clear BK627
    clear HB
    have HO598 := n0_
    have HO601 := n1_
    have HO604 := n2_
    have HO607 := n3_
    have HO610 := n4_
    have HO614 := n5_
    have HO617 := n6_
    have HO620 := n7_
    have HO623 := n8_
    have HO626 := n9_
    have HO631 := n10_
    have HO634 := n11_
    have HO637 := n12_
    have HO640 := n13_
    have HO643 := n14_
    have BK594 := n15_
    have BK627 := n16_
    have HB := n17_
    clear n0_ n1_ n2_ n3_ n4_ n5_ n6_ n7_ n8_ n9_ n10_ n11_ n12_ n13_ n14_ n15_ n16_ n17_
    (try clear hb)
    (try clear hb2)
    (try clear hk)
    (try clear hi)
    refine hK.out _ _ ⟨(blk_cell BK627.out 0).trans rfl, (blk_cell BK627.out 1).trans rfl, (blk_cell BK627.out 2).trans rfl, (blk_cell BK627.out 3).trans rfl, (blk_cell BK627.out 4).trans rfl, (blk_cell BK594.out 0).trans rfl, (blk_cell BK594.out 1).trans rfl, (blk_cell BK594.out 2).trans rfl, (blk_cell BK594.out 3).trans rfl, (blk_cell BK594.out 4).trans rfl⟩ (fun hHeld => ?_)
    clear hK K
    refine norm_ (a' := ?_) ?_ ?_
    rotate_left
    ·show Act.put _ (some 25) _ = _
     simp only [Act.put, List.setIfInBounds_toArray, List.set_cons_zero, List.set_cons_succ, i64_w, i32_w]
     rfl
    refine pureS (i := 4) (N := some 26) (by kernel_rfl) ?_
    refine done_ (by kernel_rfl) ?_
    try go_wp2
    go_ret
    exact ⟨eW, bW⟩
   ·replace c14 := Bool.eq_false_iff.mpr c14
    subst c14
    have H1 : (some false) = some r := by rw [if_neg (show ¬ (false = true) by decide)] at H; exact H
    clear H
    have H := H1
    clear H1
    exact absurd (Option.some.inj H) (by rw [HT_.out]; decide)

end Go.Proofs.YthbaocejgjpfoaaDoor.P
end M0
section M1
namespace Go.Proofs.YthbaocejgjpfoaaDoor.Op
open Go.RowKit Go.Proofs.YthbaocejgjpfoaaDoorW.PrintWords Go.Proofs.YthbaocejgjpfoaaDoorW.PrintLast Go.Proofs.YthbaocejgjpfoaaDoorW.PrintMore
/-- What is read at type t lies in memory as kind d says. -/
def Opens {α : Type} (P : Program) (t : TypeId) (d : Kd α) (ok : α → Prop) : Prop :=
  ∀ (H : Type) (enc : TypeId × Value → H) (w : World) (base : Nat) (held : Bool) (fuel : Nat) (cs : List Value) (x : DataW H × List MemPlace),
    DataW.trod enc P w base (fun _ => true) held fuel t cs = some x → ∃ a, d.K w a cs ∧ ok a
theorem opens_int {P : Program} {t : TypeId} {k : IntKind} (ht : P.underlying t = some (.int k)) : Opens P t (Kd.int k) (fun n => (Lit.int k n).wf = true) := by
  intro H enc w base held fuel cs x h
  obtain ⟨n, rfl, _, hw⟩ := DataW.trod_int ht h
  exact ⟨n, rfl, hw⟩
theorem opens_slice {α : Type} {P : Program} {t e : TypeId} {d : Kd α} {ok : α → Prop} (ht : P.underlying t = some (.slice e)) (hc : P.cellsOf e = d.sz) (he : Opens P e d ok) :
    Opens P t (Kd.slice e d) (fun xs => xs.length ≤ maxLen ∧ ∀ x ∈ xs, ok x) := by
  intro H enc w base held fuel cs x h
  rcases DataW.trod_slice ht h with ⟨rfl, _⟩ | ⟨a, len, cap, elems, rest, n, _, rfl, _, hb, hl, hm, hlen, hel, _, _⟩
  · exact ⟨[], ⟨none, 0, rfl, Nat.le_refl _, rfl, by simp, fun h => absurd h (by simp)⟩, by simp, by simp⟩
  · have each : ∀ i, i < len → ∃ y : α × List Value, y.2.length = d.sz ∧ d.K w y.1 y.2 ∧ ok y.1 ∧ ∀ j u, y.2[j]? = some u → w.cell? (a.add (i * d.sz + j)) = some u := by
      intro i hi
      have h1 := hel i hi
      rw [List.getElem?_eq_getElem (by omega), Option.bind_eq_some_iff] at h1
      obtain ⟨cs', h2, h3⟩ := h1
      obtain ⟨y, hk, ho⟩ := he _ _ _ _ _ _ _ _ h3
      obtain ⟨_, h5, h6⟩ := World.cells?_some h2
      refine ⟨(y, cs'), h5.trans hc, hk, ho, fun j u hj => ?_⟩
      have hjl : j < P.cellsOf e := by rw [← h5]; exact (List.getElem?_eq_some_iff.1 hj).1
      have h7 := h6 j hjl
      rw [hj, hc] at h7
      rw [← Addr.add_add]
      exact h7
    have hy := fun i : Fin len => Classical.choose_spec (each i.1 i.2)
    generalize hY : (fun i : Fin len => Classical.choose (each i.1 i.2)) = y at hy
    have hy' : ∀ i : Fin len, (y i).2.length = d.sz ∧ d.K w (y i).1 (y i).2 ∧ ok (y i).1 ∧ ∀ j u, (y i).2[j]? = some u → w.cell? (a.add (i.1 * d.sz + j)) = some u := by
      intro i; rw [← hY]; exact hy i
    clear hy hY
    have hln : (List.ofFn fun i => (y i).1).length = len := by simp
    refine ⟨List.ofFn fun i => (y i).1, ⟨some a, cap, by rw [hln], by rw [hln]; exact hl, ?_⟩, by rw [hln]; omega, ?_⟩
    · refine ⟨rfl, by rw [hln]; unfold maxLen at hm; omega, fun _ => ⟨a, rfl, fun j p hj => ?_⟩⟩
      have hjl : j < len := by rw [← hln]; exact (List.getElem?_eq_some_iff.1 hj).1
      rw [List.getElem?_ofFn, dif_pos hjl, Option.some.injEq] at hj
      subst hj
      obtain ⟨q1, q2, _, q4⟩ := hy' ⟨j, hjl⟩
      exact ⟨(y ⟨j, hjl⟩).2, q1, q2, fun i u hi => q4 i u hi⟩
    · intro x hx
      rw [List.mem_ofFn] at hx
      obtain ⟨i, rfl⟩ := hx
      exact (hy' i).2.2.1
/-- An argument that is a slice. -/
theorem open_row {α : Type} {P : Program} {t e : TypeId} {d : Kd α} {ok : List α → Prop} {H : Type} {enc : TypeId × Value → H} {w : World} {base fuel : Nat} {held : Bool} {v : Value} {x : DataW H × List MemPlace}
    (h : DataW.trod enc P w base (fun _ => true) held fuel t [v] = some x) (hs : Opens P t (Kd.slice e d) ok) : ∃ A c xs, v = .slice A xs.length c ∧ xs.length ≤ c ∧ d.C w A xs.length xs ∧ ok xs := by
  obtain ⟨xs, ⟨A, c, hv, hl, hr⟩, ho⟩ := hs _ _ _ _ _ _ _ _ h
  exact ⟨A, c, xs, by simpa using hv, hl, hr, ho⟩
end Go.Proofs.YthbaocejgjpfoaaDoor.Op
end M1
section M2
namespace Go.Proofs.YthbaocejgjpfoaaDoor.P
open Go.RowKit Go.Proofs.YthbaocejgjpfoaaDoor.Op Go.Proofs.YthbaocejgjpfoaaDoorW.PrintWords Go.Proofs.YthbaocejgjpfoaaDoorW.PrintLast Go.ChangeShapes Go.WideShapes Go.ChangeAt Go.Lib Go.Joins Go.ChangeShapes Go.Deep Go.Joins
theorem open_agg5 {H : Type} {enc : TypeId × Value → H} {P : Program} {w : World} {base : Nat} {spare : Nat → Bool} {held : Bool} {r : Reach} {b0 : Nat} {t : TypeId} {f0 f1 f2 f3 f4 : Field} {v : Value} {d : DataW H} {p : List MemPlace} (hs : P.underlying t = some (.struct #[f0, f1, f2, f3, f4])) (hone : oneCellFields P #[f0, f1, f2, f3, f4] = true) (hC : P.cellsOf t = 5)
    (hv : Value.okWide P w r b0 t v) (h : DataW.Trod enc P w base spare held t v d p) :
    ∃ (v0 v1 v2 v3 v4 : Value) (y0 y1 y2 y3 y4 : DataW H × List MemPlace) (n : Nat), v = .agg #[v0, v1, v2, v3, v4] ∧ d = .agg [y0.1, y1.1, y2.1, y3.1, y4.1] ∧ p = y0.2 ++ (y1.2 ++ (y2.2 ++ (y3.2 ++ y4.2))) ∧
      DataW.trod enc P w base spare held n f0.type [v0] = some y0 ∧ DataW.trod enc P w base spare held n f1.type [v1] = some y1 ∧ DataW.trod enc P w base spare held n f2.type [v2] = some y2 ∧ DataW.trod enc P w base spare held n f3.type [v3] = some y3 ∧ DataW.trod enc P w base spare held n f4.type [v4] = some y4 := by
  obtain ⟨cs, rfl, hsz⟩ := okWide_struct hs hv
  obtain ⟨cl⟩ := cs
  have hcl : cl.length = 5 := by simpa using hsz.trans hC
  obtain ⟨fuel, hf⟩ := h
  obtain ⟨xs, n, _, hx, _, hlen, hq⟩ := DataW.trod_struct hs hf
  match cl, hcl, xs, hlen with
  | [c0, c1, c2, c3, c4], _, [y0, y1, y2, y3, y4], _ =>
    obtain ⟨o0, k0⟩ := hone_of hone 0 f0 rfl
    obtain ⟨o1, k1⟩ := hone_of hone 1 f1 rfl
    obtain ⟨o2, k2⟩ := hone_of hone 2 f2 rfl
    obtain ⟨o3, k3⟩ := hone_of hone 3 f3 rfl
    obtain ⟨o4, k4⟩ := hone_of hone 4 f4 rfl
    have h0 := hq 0 f0 rfl
    have h1 := hq 1 f1 rfl
    have h2 := hq 2 f2 rfl
    have h3 := hq 3 f3 rfl
    have h4 := hq 4 f4 rfl
    simp only [Prod.mk.injEq] at hx
    exact ⟨c0, c1, c2, c3, c4, y0, y1, y2, y3, y4, n, rfl, by simpa using hx.1, by simpa using hx.2, by simpa [Value.cells, o0, k0] using h0, by simpa [Value.cells, o1, k1] using h1, by simpa [Value.cells, o2, k2] using h2, by simpa [Value.cells, o3, k3] using h3, by simpa [Value.cells, o4, k4] using h4⟩
def okT147 (x : S147) : Prop := ((Lit.int .i64 x.f0).wf = true) ∧ (x.f1.length ≤ maxLen ∧ ∀ x0 ∈ x.f1, (Lit.int .i64 x0).wf = true) ∧ (x.f2.length ≤ maxLen ∧ ∀ x1 ∈ x.f2, (Lit.int .i64 x1).wf = true)
set_option maxRecDepth 100000 in
theorem opensT147 : Opens Tryd.prog 147 k147 okT147 := by
  intro H enc w base held fuel cs x h
  obtain ⟨y0, y1, y2, n_, -, hl, h0, h1, h2⟩ := trod_struct3 Tryd.underlying147 h
  have hc : Tryd.prog.cellsOf 147 = 3 := by kernel_rfl
  have e2 : Tryd.prog.cellsOf 2 = 1 := by kernel_rfl
  have e22 : Tryd.prog.cellsOf 22 = 1 := by kernel_rfl
  rw [hc] at hl
  match cs, hl with
  | [c0, c1, c2], _ =>
    simp only [e2, e22, List.drop, List.take] at h0 h1 h2
    obtain ⟨x0, q0, o0⟩ := (opens_int Tryd.underlying2) _ _ _ _ _ _ _ _ h0
    obtain ⟨x1, q1, o1⟩ := (opens_slice Tryd.underlying22 (by kernel_rfl) (opens_int Tryd.underlying2)) _ _ _ _ _ _ _ _ h1
    obtain ⟨x2, q2, o2⟩ := (opens_slice Tryd.underlying22 (by kernel_rfl) (opens_int Tryd.underlying2)) _ _ _ _ _ _ _ _ h2
    exact ⟨⟨x0, x1, x2⟩, ⟨[c0], [c1, c2], rfl, q0, ⟨[c1], [c2], rfl, q1, q2⟩⟩, o0, o1, o2⟩
end Go.Proofs.YthbaocejgjpfoaaDoor.P
end M2
section M3
namespace Go.Proofs.YthbaocejgjpfoaaDoor.U
open Go.RowKit Go.Proofs.YthbaocejgjpfoaaDoorW.PrintWords Go.Proofs.YthbaocejgjpfoaaDoorW.PrintLast
set_option linter.unusedVariables false
/-! Small laws of numbers and lists for the plain part: what a printed loop comes to. -/
theorem w64 {n : Int} (h0 : -9223372036854775808 ≤ n) (h1 : n ≤ 9223372036854775807) : wrap64 n = n := by unfold wrap64; omega
theorem w64s {n : Nat} (h : n < 9223372036854775807) : wrap64 ((n : Int) + 1) = ((n + 1 : Nat) : Int) := by unfold wrap64; omega
theorem rdn (l : List Int) (i : Nat) : rd l (i : Int) = l.getD i 0 := rfl
theorem rd_lt {l : List Int} {i : Nat} (h : i < l.length) : rd l (i : Int) = l[i] := by
  show l.getD i 0 = _; rw [List.getD_eq_getElem?_getD, List.getElem?_eq_getElem h]; rfl
theorem rdOf_lt {α : Type} {d : α} {l : List α} {i : Nat} (h : i < l.length) : rdOf d l (i : Int) = l[i] := by
  show l.getD i d = _; rw [List.getD_eq_getElem?_getD, List.getElem?_eq_getElem h]; rfl
/-- One round more, the loop's own equation still to be unfolded. -/
theorem Ev.round {α : Type} {g : Nat → Option α} {r : α} (h : Ev (fun k => g (k + 1)) r) : Ev g r := by
  obtain ⟨K, h⟩ := h
  refine ⟨K + 1, fun n hn => ?_⟩
  obtain ⟨m, rfl⟩ : ∃ m, n = m + 1 := ⟨n - 1, by omega⟩
  exact h m (by omega)
theorem Ev.here {α β : Type} {g : Option α} {f : Nat → α → Option β} {a : α} {r : β} (h : g = some a) (k : Ev (fun n => f n a) r) : Ev (fun n => g.bind (f n)) r := by
  subst h; exact k
theorem Ev.yes {α : Type} {c : Prop} [Decidable c] {A B : Nat → Option α} {r : α} (h : c) (k : Ev A r) : Ev (fun n => if c then A n else B n) r := Ev.congr (fun _ => if_pos h) k
theorem Ev.no {α : Type} {c : Prop} [Decidable c] {A B : Nat → Option α} {r : α} (h : ¬ c) (k : Ev B r) : Ev (fun n => if c then A n else B n) r := Ev.congr (fun _ => if_neg h) k
/-- An upward loop over an index: what it comes to from i on, if what one round does is known. -/
theorem Ev.up {σ ρ : Type} (L : Nat → σ → Int → Option ρ) (n : Nat) (R : Nat → σ → ρ) (I : Nat → σ → Prop)
    (hend : ∀ s, I n s → Ev (fun k => L k s (n : Int)) (R n s))
    (hstep : ∀ i s, i < n → I i s → (∀ s', I (i + 1) s' → Ev (fun k => L k s' ((i + 1 : Nat) : Int)) (R (i + 1) s')) → Ev (fun k => L k s (i : Int)) (R i s)) :
    ∀ i s, i ≤ n → I i s → Ev (fun k => L k s (i : Int)) (R i s) := by
  intro i s hi hI
  obtain ⟨d, hd⟩ : ∃ d, n - i = d := ⟨_, rfl⟩
  induction d generalizing i s with
  | zero =>
    have : i = n := by omega
    subst this
    exact hend s hI
  | succ d ih => exact hstep i s (by omega) hI (fun s' h' => ih (i + 1) s' (by omega) h' (by omega))
/-- The rounds come to something that Q says. -/
def EvP {α : Type} (g : Nat → Option α) (Q : α → Prop) : Prop := ∃ r, Ev g r ∧ Q r
theorem EvP.mono {α : Type} {g : Nat → Option α} {Q Q' : α → Prop} (h : EvP g Q) (k : ∀ r, Q r → Q' r) : EvP g Q' := by
  obtain ⟨r, h, q⟩ := h; exact ⟨r, h, k r q⟩
theorem EvP.round {α : Type} {g : Nat → Option α} {Q : α → Prop} (h : EvP (fun k => g (k + 1)) Q) : EvP g Q := by
  obtain ⟨r, h, q⟩ := h; exact ⟨r, Ev.round h, q⟩
theorem EvP.yes {α : Type} {c : Prop} [Decidable c] {A B : Nat → Option α} {Q : α → Prop} (h : c) (k : EvP A Q) : EvP (fun n => if c then A n else B n) Q := by
  obtain ⟨r, k, q⟩ := k; exact ⟨r, Ev.yes h k, q⟩
theorem EvP.no {α : Type} {c : Prop} [Decidable c] {A B : Nat → Option α} {Q : α → Prop} (h : ¬ c) (k : EvP B Q) : EvP (fun n => if c then A n else B n) Q := by
  obtain ⟨r, k, q⟩ := k; exact ⟨r, Ev.no h k, q⟩
theorem EvP.here {α β : Type} {g : Option α} {f : Nat → α → Option β} {a : α} {Q : β → Prop} (h : g = some a) (k : EvP (fun n => f n a) Q) : EvP (fun n => g.bind (f n)) Q := by
  obtain ⟨r, k, q⟩ := k; exact ⟨r, Ev.here h k, q⟩
theorem EvP.bind {α β : Type} {g : Nat → Option α} {f : Nat → α → Option β} {a : α} {Q : β → Prop} (h : Ev g a) (k : EvP (fun n => f n a) Q) : EvP (fun n => (g n).bind (f n)) Q := by
  obtain ⟨r, k, q⟩ := k; exact ⟨r, Ev.bind h k, q⟩
theorem EvP.up {σ ρ : Type} (L : Nat → σ → Int → Option ρ) (Q : ρ → Prop) (n : Nat) (I : Nat → σ → Prop)
    (hend : ∀ s, I n s → EvP (fun k => L k s (n : Int)) Q)
    (hstep : ∀ i s, i < n → I i s → (∀ s', I (i + 1) s' → EvP (fun k => L k s' ((i + 1 : Nat) : Int)) Q) → EvP (fun k => L k s (i : Int)) Q) :
    ∀ i s, i ≤ n → I i s → EvP (fun k => L k s (i : Int)) Q := by
  intro i s hi hI
  obtain ⟨d, hd⟩ : ∃ d, n - i = d := ⟨_, rfl⟩
  induction d generalizing i s with
  | zero =>
    have : i = n := by omega
    subst this
    exact hend s hI
  | succ d ih => exact hstep i s (by omega) hI (fun s' h' => ih (i + 1) s' (by omega) h' (by omega))
end Go.Proofs.YthbaocejgjpfoaaDoor.U
end M3
section M4
namespace Go.Proofs.YthbaocejgjpfoaaDoor.U
open Go.RowKit Go.Proofs.YthbaocejgjpfoaaDoor.P Go.Proofs.YthbaocejgjpfoaaDoorW.PrintWords Go.Proofs.YthbaocejgjpfoaaDoorW.PrintLast
set_option linter.unusedVariables false
/-! What the law's own helpers come to: copies, equality, sizes. -/
theorem toS (x0 : List Int) (hn : x0.length ≤ 35184372088832) : Ev (fun k => laws_toInt64S.f k x0) x0 := by
  have key := Ev.up (fun k s i => laws_toInt64S.l0 k x0 s i) x0.length (fun _ _ => x0) (fun i s => s.length = x0.length ∧ ∀ j, j < i → s[j]? = x0[j]?)
    (fun s ⟨h1, h2⟩ => by
      refine Ev.round ?_
      simp only [laws_toInt64S.l0]
      refine Ev.no (by omega) ?_
      have : s = x0 := List.ext_getElem? fun j => by
        by_cases hj : j < x0.length
        · exact h2 j hj
        · rw [List.getElem?_eq_none (by omega), List.getElem?_eq_none (by omega)]
      rw [this]
      exact Ev.now _)
    (fun i s hi ⟨h1, h2⟩ ih => by
      refine Ev.round ?_
      simp only [laws_toInt64S.l0]
      refine Ev.yes (by omega) (Ev.yes (by omega) (Ev.yes (by omega) ?_))
      rw [w64s (by omega)]
      refine ih _ ⟨by simp [h1], fun j hj => ?_⟩
      rw [Int.toNat_natCast, rd_lt hi]
      by_cases e : j = i
      · subst e
        rw [List.getElem?_set_self (by omega), List.getElem?_eq_getElem hi]
      · rw [List.getElem?_set_ne (by omega)]
        exact h2 j (by omega))
  unfold laws_toInt64S.f
  refine Ev.yes (by omega) (Ev.yes (by omega) ?_)
  have := key 0 (List.replicate x0.length 0) (by omega) ⟨by simp, fun j hj => absurd hj (by omega)⟩
  simpa using this
theorem toSS (x0 : List (List Int)) (hn : x0.length ≤ 1048576) (hr : ∀ x ∈ x0, x.length ≤ 1048576) : Ev (fun k => laws_toInt64SS.f k x0) x0 := by
  have key := Ev.up (fun k s i => laws_toInt64SS.l0 k x0 s i) x0.length (fun _ _ => x0) (fun i s => s.length = x0.length ∧ ∀ j, j < i → s[j]? = x0[j]?)
    (fun s ⟨h1, h2⟩ => by
      refine Ev.round ?_
      simp only [laws_toInt64SS.l0]
      refine Ev.no (by omega) ?_
      have : s = x0 := List.ext_getElem? fun j => by
        by_cases hj : j < x0.length
        · exact h2 j hj
        · rw [List.getElem?_eq_none (by omega), List.getElem?_eq_none (by omega)]
      rw [this]
      exact Ev.now _)
    (fun i s hi ⟨h1, h2⟩ ih => by
      refine Ev.round ?_
      simp only [laws_toInt64SS.l0]
      refine Ev.yes (by omega) (Ev.yes (by omega) ?_)
      have hg : rd_L1 x0 (i : Int) = x0[i] := rdOf_lt (d := []) hi
      rw [hg]
      refine Ev.bind (toS x0[i] (by have := hr _ (List.getElem_mem hi); omega)) (Ev.yes (by omega) ?_)
      rw [w64s (by omega)]
      refine ih _ ⟨by simp [h1], fun j hj => ?_⟩
      rw [Int.toNat_natCast]
      by_cases e : j = i
      · subst e
        rw [List.getElem?_set_self (by omega), List.getElem?_eq_getElem hi]
      · rw [List.getElem?_set_ne (by omega)]
        exact h2 j (by omega))
  unfold laws_toInt64SS.f
  refine Ev.yes (by omega) (Ev.yes (by omega) ?_)
  have := key 0 (List.replicate x0.length []) (by omega) ⟨by simp, fun j hj => absurd hj (by omega)⟩
  simpa using this
theorem eqS (a b : List Int) (hn : a.length ≤ 9223372036854775806) : Ev (fun k => laws_eqInt64S.f k a b) (decide (a = b)) := by
  unfold laws_eqInt64S.f
  by_cases hl : a.length = b.length
  · refine Ev.yes (by omega) ?_
    have key := Ev.up (fun k (_ : Unit) i => laws_eqInt64S.l0 k a b i) a.length (fun _ _ => decide (a = b)) (fun i _ => ∀ j, j < i → a[j]? = b[j]?)
      (fun _ h2 => by
        refine Ev.round ?_
        simp only [laws_eqInt64S.l0]
        refine Ev.no (by omega) ?_
        have : a = b := List.ext_getElem? fun j => by
          by_cases hj : j < a.length
          · exact h2 j hj
          · rw [List.getElem?_eq_none (by omega), List.getElem?_eq_none (by omega)]
        rw [decide_eq_true this]
        exact Ev.now _)
      (fun i _ hi h2 ih => by
        refine Ev.round ?_
        simp only [laws_eqInt64S.l0]
        refine Ev.yes (by omega) (Ev.yes (by omega) (Ev.yes (by omega) ?_))
        rw [rd_lt hi, rd_lt (by omega : i < b.length), w64s (by omega)]
        by_cases e : a[i] = b[i]
        · refine Ev.yes e (ih () fun j hj => ?_)
          by_cases e' : j = i
          · subst e'
            rw [List.getElem?_eq_getElem hi, List.getElem?_eq_getElem (by omega), e]
          · exact h2 j (by omega)
        · refine Ev.no e ?_
          rw [decide_eq_false (fun h => e (by subst h; rfl))]
          exact Ev.now _)
    have := key 0 () (by omega) (fun j hj => absurd hj (by omega))
    simpa using this
  · refine Ev.no (by omega) ?_
    rw [decide_eq_false (fun h => hl (by rw [h]))]
    exact Ev.now _
theorem eqSS (a b : List (List Int)) (hn : a.length ≤ 9223372036854775806) (hr : ∀ x ∈ a, x.length ≤ 9223372036854775806) : Ev (fun k => laws_eqInt64SS.f k a b) (decide (a = b)) := by
  unfold laws_eqInt64SS.f
  by_cases hl : a.length = b.length
  · refine Ev.yes (by omega) ?_
    have key := Ev.up (fun k (_ : Unit) i => laws_eqInt64SS.l0 k a b i) a.length (fun _ _ => decide (a = b)) (fun i _ => ∀ j, j < i → a[j]? = b[j]?)
      (fun _ h2 => by
        refine Ev.round ?_
        simp only [laws_eqInt64SS.l0]
        refine Ev.no (by omega) ?_
        have : a = b := List.ext_getElem? fun j => by
          by_cases hj : j < a.length
          · exact h2 j hj
          · rw [List.getElem?_eq_none (by omega), List.getElem?_eq_none (by omega)]
        rw [decide_eq_true this]
        exact Ev.now _)
      (fun i _ hi h2 ih => by
        refine Ev.round ?_
        simp only [laws_eqInt64SS.l0]
        refine Ev.yes (by omega) (Ev.yes (by omega) (Ev.yes (by omega) ?_))
        have hg : rd_L1 a (i : Int) = a[i] := rdOf_lt (d := []) hi
        have hg2 : rd_L1 b (i : Int) = b[i] := rdOf_lt (d := []) (by omega)
        rw [hg, hg2, w64s (by omega)]
        refine Ev.bind (eqS a[i] b[i] (hr _ (List.getElem_mem hi))) ?_
        by_cases e : a[i] = b[i]
        · rw [decide_eq_true e]
          refine Ev.yes rfl (ih () fun j hj => ?_)
          by_cases e' : j = i
          · subst e'
            rw [List.getElem?_eq_getElem hi, List.getElem?_eq_getElem (by omega), e]
          · exact h2 j (by omega)
        · rw [decide_eq_false e]
          refine Ev.no (by simp) ?_
          rw [decide_eq_false (fun h => e (by subst h; rfl))]
          exact Ev.now _)
    have := key 0 () (by omega) (fun j hj => absurd hj (by omega))
    simpa using this
  · refine Ev.no (by omega) ?_
    rw [decide_eq_false (fun h => hl (by rw [h]))]
    exact Ev.now _
/-- The size of a list of lists as the laws count it. -/
def sz2 (x : List (List Int)) : Nat := x.length + (x.map List.length).sum
theorem szSS (x0 : List (List Int)) (hn : x0.length ≤ maxLen) (hr : ∀ x ∈ x0, x.length ≤ maxLen) (a : Nat) (ha : a ≤ 1048576) :
    Ev (fun k => laws_szInt64SS.f k x0 a) (if sz2 x0 ≤ a then ((a - sz2 x0 : Nat) : Int) else -1) := by
  unfold maxLen at hn hr
  have hrd : ∀ i, i < x0.length → rd_L1 x0 (i : Int) = x0.getD i [] := fun i hi => rfl
  have key := Ev.up (fun k (s : Nat) i => laws_szInt64SS.l0 k x0 (s : Int) i) x0.length
    (fun i s => if ((x0.drop i).map List.length).sum ≤ s then ((s - ((x0.drop i).map List.length).sum : Nat) : Int) else -1) (fun _ s => s ≤ 1048576)
    (fun s hs => by
      refine Ev.round ?_
      simp only [laws_szInt64SS.l0]
      refine Ev.no (by omega) ?_
      simp only [List.drop_length, List.map_nil, List.sum_nil, Nat.zero_le, if_true, Nat.sub_zero]
      exact Ev.now _)
    (fun i s hi hs ih => by
      refine Ev.round ?_
      simp only [laws_szInt64SS.l0]
      refine Ev.yes (by omega) (Ev.yes (by omega) ?_)
      have hg : rd_L1 x0 (i : Int) = x0[i] := rdOf_lt (d := []) hi
      rw [hg, w64s (by omega)]
      have hx := hr _ (List.getElem_mem hi)
      have hd : x0.drop i = x0[i] :: x0.drop (i + 1) := List.drop_eq_getElem_cons hi
      rw [hd, List.map_cons, List.sum_cons]
      have hw : wrap64 ((s : Int) - (x0[i].length : Int)) = (s : Int) - (x0[i].length : Int) := w64 (by omega) (by omega)
      have hf : laws_szInt64S.f x0[i] (s : Int) = some (if x0[i].length ≤ s then ((s - x0[i].length : Nat) : Int) else -1) := by
        unfold laws_szInt64S.f
        rw [hw]
        by_cases h : x0[i].length ≤ s
        · rw [if_neg (by omega), if_pos h]; congr 1; omega
        · rw [if_pos (by omega), if_neg h]
      refine Ev.here hf ?_
      by_cases h : x0[i].length ≤ s
      · rw [if_pos h]
        refine Ev.no (by omega) ?_
        have := ih (s - x0[i].length) (by omega)
        by_cases h2 : ((x0.drop (i + 1)).map List.length).sum ≤ s - x0[i].length
        · rw [if_pos h2] at this
          rw [if_pos (by omega), show s - (x0[i].length + ((x0.drop (i + 1)).map List.length).sum) = s - x0[i].length - ((x0.drop (i + 1)).map List.length).sum from by omega]
          exact this
        · rw [if_neg h2] at this
          rw [if_neg (by omega)]
          exact this
      · rw [if_neg h]
        refine Ev.yes (by omega) ?_
        rw [if_neg (by omega)]
        exact Ev.now _)
  unfold laws_szInt64SS.f
  have hw : wrap64 ((a : Int) - (x0.length : Int)) = (a : Int) - (x0.length : Int) := w64 (by omega) (by omega)
  rw [hw]
  unfold sz2
  by_cases h : x0.length ≤ a
  · refine Ev.no (by omega) ?_
    have := key 0 (a - x0.length) (by omega) (by omega)
    rw [show ((a - x0.length : Nat) : Int) = (a : Int) - (x0.length : Int) from by omega] at this
    simp only [List.drop_zero] at this
    by_cases h2 : (x0.map List.length).sum ≤ a - x0.length
    · rw [if_pos h2] at this
      rw [if_pos (by omega), show a - (x0.length + (x0.map List.length).sum) = a - x0.length - (x0.map List.length).sum from by omega]
      exact this
    · rw [if_neg h2] at this
      rw [if_neg (by omega)]
      exact this
  · refine Ev.yes (by omega) ?_
    rw [if_neg (by omega)]
    exact Ev.now _
theorem le_sum {l : List Nat} {a : Nat} (h : a ∈ l) : a ≤ l.sum := by
  induction l with
  | nil => cases h
  | cons b l ih =>
    rw [List.sum_cons]
    rcases List.mem_cons.1 h with rfl | h
    · omega
    · have := ih h; omega
theorem le_sz2 {x0 : List (List Int)} {x : List Int} (h : x ∈ x0) : x.length ≤ sz2 x0 := by
  unfold sz2
  have : x.length ∈ x0.map List.length := List.mem_map.2 ⟨x, h, rfl⟩
  have := le_sum this
  omega
end Go.Proofs.YthbaocejgjpfoaaDoor.U
end M4
section M5
namespace Go.Proofs.YthbaocejgjpfoaaDoor.U
open Go.RowKit Go.Proofs.YthbaocejgjpfoaaDoorW.PrintWords Go.Proofs.YthbaocejgjpfoaaDoorW.PrintLast Go.Proofs.YthbaocejgjpfoaaDoorW.PrintMore
set_option linter.unusedVariables false
/-! Sets as numbers. -/
theorem i64_id (n : Int) (h0 : 0 ≤ n) (h1 : n < 2 ^ 63) : IntKind.i64.wrap n = n := by rw [IntKind.wrap_i64]; omega
theorem band {a b : Nat} (ha : a < 2 ^ 63) (hb : b < 2 ^ 63) : bits .and .i64 (a : Int) (b : Int) = ((a &&& b : Nat) : Int) := (bits_nat .i64 63 (by decide) i64_id a b ha hb).1
theorem shl1 {i : Nat} (hi : i < 63) : shl .i64 1 (i : Int) = ((2 ^ i : Nat) : Int) := by
  unfold shl
  rw [Int.toNat_natCast]
  have : min i IntKind.i64.bits = i := Nat.min_eq_left (by show i ≤ 64; omega)
  rw [this, Int.one_mul]
  have h := Nat.pow_lt_pow_right (a := 2) (by decide) hi
  rw [show ((2 : Int) ^ i) = ((2 ^ i : Nat) : Int) from by simp]
  exact i64_id _ (Int.natCast_nonneg _) (by exact_mod_cast h)
theorem hasN {m s : Nat} (hm : m < 2 ^ 63) (hs : s ≤ 64) : ((bits .and .i64 (shr .i64 (m : Int) (s : Int)) 1) == 1) = m.testBit s := by
  have hsh : shr .i64 (m : Int) (s : Int) = ((m / 2 ^ s : Nat) : Int) := by
    unfold shr
    rw [Int.toNat_natCast, Nat.min_eq_left (show s ≤ IntKind.i64.bits from hs)]
    rw [show ((2 : Int) ^ s) = ((2 ^ s : Nat) : Int) from by simp]
    exact (Int.natCast_ediv _ _).symm
  have hq : m / 2 ^ s < 2 ^ 63 := Nat.lt_of_le_of_lt (Nat.div_le_self _ _) hm
  rw [hsh, show (1 : Int) = ((1 : Nat) : Int) from rfl, band hq (by decide), Nat.and_one_is_mod, Nat.testBit_eq_decide_div_mod_eq]
  generalize m / 2 ^ s % 2 = r
  by_cases h : r = 1
  · subst h; rfl
  · rw [decide_eq_false h]
    simp; omega
end Go.Proofs.YthbaocejgjpfoaaDoor.U
end M5
section M6
namespace Go.Proofs.YthbaocejgjpfoaaDoor.U
open Go.RowKit Go.Proofs.YthbaocejgjpfoaaDoor.P Go.Proofs.YthbaocejgjpfoaaDoorW.PrintWords Go.Proofs.YthbaocejgjpfoaaDoorW.PrintLast Go.Proofs.YthbaocejgjpfoaaDoorW.PrintMore
set_option linter.unusedVariables false
/-! Alphabets: both tests answer alike. -/
def inI (a lo hi : Int) : Bool := decide (lo ≤ a) && decide (a ≤ hi)
theorem inI_iff {a lo hi : Int} : inI a lo hi = true ↔ lo ≤ a ∧ a ≤ hi := by unfold inI; simp
theorem spInI (a lo hi : Int) : spec_l01In.f a lo hi = some (inI a lo hi) := by
  unfold spec_l01In.f inI
  by_cases h : lo ≤ a
  · rw [if_pos h, decide_eq_true h, Bool.true_and]
  · rw [if_neg h, decide_eq_false h, Bool.false_and]
theorem imInI (a lo hi : Int) : impl_inRange.f a lo hi = some (inI a lo hi) := by
  unfold impl_inRange.f inI
  by_cases h : lo ≤ a
  · rw [if_pos h, decide_eq_true h, Bool.true_and]
  · rw [if_neg h, decide_eq_false h, Bool.false_and]
theorem u64i {n : Nat} (h : n < 18446744073709551616) : IntKind.u64.wrap (n : Int) = (n : Int) := by
  show (n : Int) % 18446744073709551616 = n
  omega
theorem spOneI {i : Nat} (h : i < 63) : spec_l01One.f (i : Int) = some ((2 ^ i : Nat) : Int) := by
  unfold spec_l01One.f
  rw [u64i (by omega), if_pos (by omega), shl1 h]
theorem imOneI {i : Nat} (h : i < 63) : impl_one.f (i : Int) = some ((2 ^ i : Nat) : Int) := by
  unfold impl_one.f
  rw [if_pos (by omega), shl1 h]
theorem fullW {n : Nat} (h : n < 63) : wrap64 (((2 ^ n : Nat) : Int) - 1) = ((2 ^ n - 1 : Nat) : Int) := by
  have h1 := Nat.pow_lt_pow_right (a := 2) (by decide) h
  have h2 : 0 < 2 ^ n := Nat.pow_pos (by decide)
  generalize 2 ^ n = p at h1 h2
  have h3 : (2 : Nat) ^ 63 = 9223372036854775808 := by decide
  rw [h3] at h1
  rw [w64 (by omega) (by omega)]
  omega
theorem spFullI {n : Nat} (h : n < 63) : spec_l01Full.f (n : Int) = some ((2 ^ n - 1 : Nat) : Int) := by
  unfold spec_l01Full.f
  rw [spOneI h]
  simp only [Option.bind_some]
  rw [fullW h]
theorem spBitI {m s : Nat} (hm : m < 2 ^ 63) (hs : s ≤ 64) : spec_l01Bit.f (m : Int) (s : Int) = some (m.testBit s) := by
  unfold spec_l01Bit.f
  rw [u64i (by omega), if_pos (by omega), hasN hm hs]
/-- Does row a of a relation have b? -/
def bt (d : List Int) (a b : Nat) : Bool := (d.getD a 0).toNat.testBit b
def okRow (d : List Int) (a : Nat) : Prop := bt d a a = true ∧ ∀ b, b < d.length → bt d a b = bt d b a
instance (d : List Int) (a : Nat) : Decidable (okRow d a) := by unfold okRow; exact inferInstance
/-- The members of a small set. -/
def memN (m : Nat) : List Nat := (List.range 8).filter (m.testBit ·)
theorem mem_step : ∀ m : Fin 256, m.val ≠ 0 → (impl_least.f (m.val : Int) = some ((Lib.ctz 64 m.val : Nat) : Int) ∧ Go.bits .and .i64 (m.val : Int) (wrap64 ((m.val : Int) - 1)) = ((m.val &&& (m.val - 1) : Nat) : Int)
    ∧ m.val &&& (m.val - 1) < m.val ∧ memN m.val = Lib.ctz 64 m.val :: memN (m.val &&& (m.val - 1))) := by decide +kernel
theorem members_loop (m : Nat) (hm : m < 256) : ∀ acc : List Int, acc.length + m < 17592186044416 → Ev (fun k => impl_members.l0 k (m : Int) acc) (acc ++ (memN m).map Int.ofNat) := by
  induction m using Nat.strongRecOn with
  | _ m ih =>
    intro acc ha
    refine Ev.round ?_
    simp only [impl_members.l0]
    by_cases h0 : m = 0
    · subst h0
      refine Ev.yes rfl ?_
      rw [show memN 0 = [] from by decide, List.map_nil, List.append_nil]
      exact Ev.now _
    · obtain ⟨h1, h2, h3, h4⟩ := mem_step ⟨m, hm⟩ h0
      simp only at h1 h2 h3 h4
      refine Ev.no (by omega) (Ev.here h1 (Ev.yes (by omega) ?_))
      rw [h2, h4, List.map_cons]
      have := ih _ h3 (by omega) (acc ++ [((Lib.ctz 64 m : Nat) : Int)]) (by rw [List.length_append, List.length_singleton]; omega)
      rw [List.append_assoc] at this
      exact this
theorem members_ev {m : Nat} (hm : m < 256) : Ev (fun k => impl_members.f k (m : Int)) ((memN m).map Int.ofNat) := by
  unfold impl_members.f
  have := members_loop m hm [] (by have : ([] : List Int).length = 0 := rfl; omega)
  simpa using this
theorem mem_memN {m k : Nat} (hm : m < 256) : k ∈ memN m ↔ m.testBit k = true := by
  unfold memN
  rw [List.mem_filter, List.mem_range]
  refine ⟨fun h => h.2, fun h => ⟨?_, h⟩⟩
  rcases Nat.lt_or_ge k 8 with h8 | h8
  · exact h8
  · rw [Nat.testBit_lt_two_pow (Nat.lt_of_lt_of_le hm (show 2 ^ 8 ≤ 2 ^ k from Nat.pow_le_pow_right (by decide) h8))] at h
    cases h
end Go.Proofs.YthbaocejgjpfoaaDoor.U
end M6
section M7
namespace Go.Proofs.YthbaocejgjpfoaaDoor.U
open Go.RowKit Go.Proofs.YthbaocejgjpfoaaDoor.P Go.Proofs.YthbaocejgjpfoaaDoorW.PrintWords Go.Proofs.YthbaocejgjpfoaaDoorW.PrintLast Go.Proofs.YthbaocejgjpfoaaDoorW.PrintMore
set_option linter.unusedVariables false
/-! Words over an alphabet, and their order. -/
/-- The order of two lists, letter by letter. -/
def cmpL : List Int → List Int → Int
  | [], [] => 0
  | [], _ :: _ => -1
  | _ :: _, [] => 1
  | a :: u, b :: v => if a < b then -1 else if a > b then 1 else cmpL u v
theorem cmpL_nil (v : List Int) : cmpL [] v = if 0 < v.length then -1 else 0 := by cases v <;> rfl
theorem cmpL_over (u v : List Int) (i : Nat) (hu : i < u.length) (hv : ¬ i < v.length) : cmpL (u.drop i) (v.drop i) = 1 := by
  rw [List.drop_eq_getElem_cons hu, show v.drop i = [] from List.drop_eq_nil_of_le (by omega)]
  rfl
theorem cmpL_end (u v : List Int) : cmpL (u.drop u.length) (v.drop u.length) = if u.length < v.length then -1 else 0 := by
  rw [List.drop_length, cmpL_nil, List.length_drop]
  by_cases h : u.length < v.length
  · rw [if_pos h, if_pos (by omega)]
  · rw [if_neg h, if_neg (by omega)]
theorem cmpL_at (u v : List Int) (i : Nat) (hu : i < u.length) (hv : i < v.length) : cmpL (u.drop i) (v.drop i) = if u[i] < v[i] then -1 else if u[i] > v[i] then 1 else cmpL (u.drop (i + 1)) (v.drop (i + 1)) := by
  rw [List.drop_eq_getElem_cons hu, List.drop_eq_getElem_cons hv]
  rfl
theorem less_ev (u v : List Int) (hu : u.length ≤ 9223372036854775806) : Ev (fun k => spec_l01Less.f k u v) (decide (cmpL u v < 0)) := by
  have key := Ev.up (fun k (_ : Unit) i => spec_l01Less.l0 k u v i) u.length (fun i _ => decide (cmpL (u.drop i) (v.drop i) < 0)) (fun i _ => i ≤ v.length)
    (fun _ _ => by
      refine Ev.round ?_
      simp only [spec_l01Less.l0]
      refine Ev.no (by omega) (Ev.round ?_)
      simp only [spec_l01Less.j1]
      refine Ev.no (by simp) ?_
      rw [cmpL_end]
      by_cases h : u.length < v.length
      · rw [if_pos h, decide_eq_true (show (u.length : Int) < (v.length : Int) by omega)]
        exact Ev.now _
      · rw [if_neg h, decide_eq_false (show ¬ (u.length : Int) < (v.length : Int) by omega)]
        exact Ev.now _)
    (fun i _ hi hv ih => by
      refine Ev.round ?_
      simp only [spec_l01Less.l0]
      refine Ev.yes (by omega) (Ev.round ?_)
      simp only [spec_l01Less.j1]
      by_cases hv' : i < v.length
      · rw [decide_eq_true (show (i : Int) < (v.length : Int) by omega)]
        refine Ev.yes rfl (Ev.yes (by omega) (Ev.yes (by omega) (Ev.yes (by omega) ?_)))
        rw [rd_lt hi, rd_lt hv', w64s (by omega), cmpL_at u v i hi hv']
        by_cases e : u[i] = v[i]
        · refine Ev.yes e ?_
          rw [if_neg (by omega), if_neg (by omega)]
          exact ih () (by omega)
        · refine Ev.no e ?_
          by_cases e' : u[i] < v[i]
          · rw [if_pos e', decide_eq_true e']
            exact Ev.now _
          · rw [if_neg e', if_pos (by omega), decide_eq_false e']
            exact Ev.now _
      · rw [decide_eq_false (show ¬ (i : Int) < (v.length : Int) by omega)]
        refine Ev.no (by simp) ?_
        rw [cmpL_over u v i hi hv', decide_eq_false (show ¬ (u.length : Int) < (v.length : Int) by omega)]
        exact Ev.now _)
  have := key 0 () (by omega) (by omega)
  unfold spec_l01Less.f
  simpa using this
theorem cmpInt (a b : Int) : cmp_Compare_int64.f a b = some (if a < b then -1 else if a > b then 1 else 0) := by
  unfold cmp_Compare_int64.f
  have h : ∀ x, cmp_isNaN_int64.f x = some false := fun x => by unfold cmp_isNaN_int64.f; simp
  rw [h, h]
  simp only [Option.bind_some, Bool.false_eq_true, if_false]
  split
  · rfl
  · split <;> rfl
theorem compare_ev (u v : List Int) (hu : u.length ≤ 9223372036854775806) : Ev (fun k => slices_Compare_int64_int64.f k u v) (cmpL u v) := by
  have key := Ev.up (fun k (_ : Unit) i => slices_Compare_int64_int64.l0 k u v u (u.length : Int) i) u.length (fun i _ => cmpL (u.drop i) (v.drop i)) (fun i _ => i ≤ v.length)
    (fun _ _ => by
      refine Ev.round ?_
      simp only [slices_Compare_int64_int64.l0]
      refine Ev.no (by omega) ?_
      rw [cmpL_end]
      by_cases h : u.length < v.length
      · rw [if_pos h]
        exact Ev.yes (by omega) (Ev.now _)
      · rw [if_neg h]
        exact Ev.no (by omega) (Ev.now _))
    (fun i _ hi hv ih => by
      refine Ev.round ?_
      simp only [slices_Compare_int64_int64.l0]
      refine Ev.yes (by omega) (Ev.yes (by omega) (Ev.yes (by omega) ?_))
      by_cases hv' : i < v.length
      · refine Ev.no (by omega) (Ev.yes (by omega) (Ev.here (cmpInt _ _) ?_))
        rw [rd_lt hi, rd_lt hv', w64s (by omega), cmpL_at u v i hi hv']
        by_cases e' : u[i] < v[i]
        · rw [if_pos e', if_pos e']
          exact Ev.no (by omega) (Ev.now _)
        · rw [if_neg e', if_neg e']
          by_cases e : u[i] > v[i]
          · rw [if_pos e, if_pos e]
            exact Ev.no (by omega) (Ev.now _)
          · rw [if_neg e, if_neg e]
            exact Ev.yes rfl (ih () (by omega))
      · refine Ev.yes (by omega) ?_
        rw [cmpL_over u v i hi hv']
        exact Ev.now _)
  have := key 0 () (by omega) (by omega)
  unfold slices_Compare_int64_int64.f
  simpa using this
theorem getD_mem {l : List (List Int)} {i : Nat} (h : i < l.length) : l.getD i [] ∈ l := by
  rw [List.getD_eq_getElem?_getD, List.getElem?_eq_getElem h]
  exact List.getElem_mem h
end Go.Proofs.YthbaocejgjpfoaaDoor.U
end M7
section M8
namespace Go.Proofs.YthbaocejgjpfoaaDoor.U
open Go.RowKit Go.Proofs.YthbaocejgjpfoaaDoor.P Go.Proofs.YthbaocejgjpfoaaDoorW.PrintWords Go.Proofs.YthbaocejgjpfoaaDoorW.PrintLast Go.Proofs.YthbaocejgjpfoaaDoorW.PrintMore
set_option linter.unusedVariables false
/-! Asynchronous automata: both tests. -/
/-- The list has a local state for each size. -/
def glR : List Int → List Int → Bool
  | [], [] => true
  | [], _ :: _ => false
  | _ :: _, [] => false
  | s :: sz, x :: l => inI x 0 (wrap64 (s - 1)) && glR sz l
/-- The sizes of the processes of a set, the first being process p. -/
def pickL (m : Nat) : List Int → Nat → List Int
  | [], _ => []
  | s :: t, p => if m.testBit p then s :: pickL m t (p + 1) else pickL m t (p + 1)
theorem glR_len {sz l : List Int} (h : l.length ≠ sz.length) : glR sz l = false := by
  induction sz generalizing l with
  | nil => cases l with
    | nil => exact absurd rfl h
    | cons x l => rfl
  | cons s sz ih => cases l with
    | nil => rfl
    | cons x l =>
      show (_ && glR sz l) = false
      rw [ih (by simp at h; exact h), Bool.and_false]
theorem glR_nil (l : List Int) : glR [] l = decide (l.length = 0) := by cases l <;> rfl
theorem isGlobal_ev (sz l : List Int) (hl : l.length ≤ 1048576) : Ev (fun k => impl_isGlobal.f k sz l) (glR sz l) := by
  unfold impl_isGlobal.f
  by_cases e : l.length = sz.length
  · refine Ev.yes (by omega) ?_
    have key := Ev.up (fun k (_ : Unit) i => impl_isGlobal.l0 k sz l (l.length : Int) i) l.length (fun i _ => glR (sz.drop i) (l.drop i)) (fun i _ => True)
      (fun _ _ => by
        refine Ev.round ?_
        simp only [impl_isGlobal.l0]
        refine Ev.no (by omega) ?_
        rw [List.drop_length, e, List.drop_length]
        exact Ev.now _)
      (fun i _ hi _ ih => by
        refine Ev.round ?_
        simp only [impl_isGlobal.l0]
        refine Ev.yes (by omega) (Ev.yes (by omega) (Ev.yes (by omega) (Ev.yes (by omega) (Ev.here (imInI _ _ _) ?_))))
        rw [rd_lt hi, rd_lt (by omega : i < sz.length), w64s (by omega), List.drop_eq_getElem_cons hi, List.drop_eq_getElem_cons (by omega : i < sz.length)]
        show Ev _ (_ && _)
        cases inI l[i] 0 (wrap64 (sz[i] - 1))
        · exact Ev.no (by simp) (Ev.now _)
        · exact Ev.yes rfl (ih () trivial))
    have := key 0 () (by omega) trivial
    simpa using this
  · refine Ev.no (by omega) ?_
    rw [glR_len e]
    exact Ev.now _
theorem spLocal_ev (a sz c : List Int) (J : List S149) (F : List (List Int)) (m : Nat) (l : List Int) (hm : m < 2 ^ 63) (hs : sz.length ≤ 4) (hl : l.length ≤ 1048576) :
    Ev (fun k => spec_l14Local.f k a sz c J F (m : Int) l) (glR (pickL m sz 0) l) := by
  have key := Ev.up (fun k (s : Nat) i => spec_l14Local.l0 k (m : Int) l (s : Int) i a sz c J F) sz.length (fun i s => glR (pickL m (sz.drop i) i) (l.drop s)) (fun i s => s ≤ l.length)
    (fun s hs => by
      refine Ev.round ?_
      simp only [spec_l14Local.l0]
      refine Ev.no (by omega) ?_
      rw [List.drop_length, show pickL m [] sz.length = [] from rfl, glR_nil, List.length_drop]
      rw [show decide (l.length - s = 0) = ((s : Int) == (l.length : Int)) from by
        by_cases e : s = l.length
        · subst e; simp
        · rw [decide_eq_false (by omega)]; symm; rw [beq_eq_false_iff_ne]; omega]
      exact Ev.now _)
    (fun i s hi hsl ih => by
      refine Ev.round ?_
      simp only [spec_l14Local.l0]
      refine Ev.yes (by omega) (Ev.here (spBitI hm (by omega)) ?_)
      rw [List.drop_eq_getElem_cons hi]
      cases hb : m.testBit i
      · refine Ev.no (by simp) ?_
        rw [w64s (by omega), show pickL m (sz[i] :: sz.drop (i + 1)) i = pickL m (sz.drop (i + 1)) (i + 1) from by show (if _ then _ else _) = _; rw [hb]; rfl]
        exact ih s hsl
      · rw [show pickL m (sz[i] :: sz.drop (i + 1)) i = sz[i] :: pickL m (sz.drop (i + 1)) (i + 1) from by show (if _ then _ else _) = _; rw [hb]; rfl]
        refine Ev.yes rfl ?_
        by_cases e : s = l.length
        · refine Ev.yes (by omega) ?_
          rw [e, List.drop_length]
          exact Ev.now _
        · have hlt : s < l.length := by omega
          refine Ev.no (by omega) (Ev.yes (by omega) (Ev.yes (by omega) (Ev.yes (by omega) (Ev.here (spInI _ _ _) ?_))))
          rw [rd_lt hi, rd_lt hlt, w64s (by omega), w64s (by omega), List.drop_eq_getElem_cons hlt]
          show Ev _ (_ && _)
          cases inI l[s] 0 (wrap64 (sz[i] - 1))
          · exact Ev.no (by simp) (Ev.now _)
          · exact Ev.yes rfl (ih (s + 1) (by omega)))
  have := key 0 0 (by omega) (by omega)
  unfold spec_l14Local.f
  simpa using this
theorem pickL_full (n : Nat) (t : List Int) (p : Nat) (h : p + t.length ≤ n) : pickL (2 ^ n - 1) t p = t := by
  induction t generalizing p with
  | nil => rfl
  | cons s t ih =>
    show (if _ then _ else _) = _
    simp only [List.length_cons] at h
    rw [if_pos (by rw [Nat.testBit_two_pow_sub_one]; exact decide_eq_true (by omega)), ih (p + 1) (by omega)]
theorem spGlobal_ev (a sz c : List Int) (J : List S149) (F : List (List Int)) (l : List Int) (hs : sz.length ≤ 4) (hl : l.length ≤ 1048576) :
    Ev (fun k => spec_l14Global.f k a sz c J F l) (glR sz l) := by
  unfold spec_l14Global.f
  refine Ev.here (spFullI (by omega)) ?_
  have hp : 2 ^ sz.length ≤ 2 ^ 4 := Nat.pow_le_pow_right (by decide) hs
  have h := spLocal_ev a sz c J F (2 ^ sz.length - 1) l (by omega) hs hl
  rw [pickL_full _ _ _ (by omega)] at h
  exact Ev.bind h (Ev.now _)
theorem pickL_range (m : Nat) (t : List Int) (p : Nat) : pickL m t p = ((List.range' p t.length).filter (m.testBit ·)).map fun k => t.getD (k - p) 0 := by
  induction t generalizing p with
  | nil => rfl
  | cons s t ih =>
    rw [List.length_cons, List.range'_succ, List.filter_cons]
    have e : ((List.range' (p + 1) t.length).filter (m.testBit ·)).map (fun k => (s :: t).getD (k - p) 0) = pickL m t (p + 1) := by
      rw [ih]
      refine List.map_congr_left fun k hk => ?_
      have := (List.mem_range'_1.1 (List.mem_filter.1 hk).1).1
      rw [show k - p = (k - (p + 1)) + 1 from by omega]
      rfl
    show (if _ then _ else _) = _
    by_cases hb : m.testBit p = true
    · rw [if_pos hb, if_pos hb, List.map_cons, e]
      simp
    · rw [if_neg hb, if_neg hb, e]
theorem memN_pick (m : Nat) (sz : List Int) (hs : sz.length ≤ 8) (hm : m < 2 ^ sz.length) : (memN m).map (fun k => sz.getD k 0) = pickL m sz 0 := by
  rw [pickL_range]
  unfold memN
  have h8 : List.range 8 = List.range' 0 sz.length ++ List.range' sz.length (8 - sz.length) := by
    rw [List.range_eq_range', show (8 : Nat) = sz.length + (8 - sz.length) from by omega, ← List.range'_append_1]
    simp
  have hnil : (List.range' sz.length (8 - sz.length)).filter (m.testBit ·) = [] := by
    rw [List.filter_eq_nil_iff]
    intro k hk
    have := (List.mem_range'_1.1 hk).1
    rw [Nat.testBit_lt_two_pow (Nat.lt_of_lt_of_le hm (Nat.pow_le_pow_right (by decide) this))]
    simp
  rw [h8, List.filter_append, hnil, List.append_nil]
  rfl
theorem locals_ev (sz : List Int) (m : Nat) (hs : sz.length ≤ 8) (hm : m < 2 ^ sz.length) : Ev (fun k => impl_locals.f k sz (m : Int)) (pickL m sz 0) := by
  have hm8 : m < 256 := Nat.lt_of_lt_of_le hm (show 2 ^ sz.length ≤ 2 ^ 8 from Nat.pow_le_pow_right (by decide) hs)
  have hlen : (memN m).length ≤ 8 := by unfold memN; exact Nat.le_trans (List.length_filter_le _ _) (by simp)
  have hgl : ((memN m).map Int.ofNat).length = (memN m).length := List.length_map _
  unfold impl_locals.f
  refine Ev.bind (members_ev hm8) ?_
  have key := Ev.up (fun k (s : List Int) i => impl_locals.l0 k sz s ((memN m).map Int.ofNat) (((memN m).map Int.ofNat).length : Int) i) (memN m).length (fun _ _ => pickL m sz 0) (fun i s => s = ((memN m).take i).map fun k => sz.getD k 0)
    (fun s hs' => by
      refine Ev.round ?_
      simp only [impl_locals.l0]
      refine Ev.no (by omega) ?_
      rw [hs', List.take_length, memN_pick m sz hs hm]
      exact Ev.now _)
    (fun i s hi hs' ih => by
      refine Ev.round ?_
      simp only [impl_locals.l0]
      have hg : rd ((memN m).map Int.ofNat) (i : Int) = (((memN m)[i] : Nat) : Int) := by
        rw [rd_lt (by omega), List.getElem_map]; rfl
      have hlt : (memN m)[i] < sz.length := by
        have hk := (mem_memN hm8).1 (List.getElem_mem hi)
        rcases Nat.lt_or_ge (memN m)[i] sz.length with h8 | h8
        · exact h8
        · rw [Nat.testBit_lt_two_pow (Nat.lt_of_lt_of_le hm (Nat.pow_le_pow_right (by decide) h8))] at hk
          cases hk
      have hsl : s.length ≤ 8 := by rw [hs', List.length_map, List.length_take]; omega
      rw [hg]
      refine Ev.yes (by omega) (Ev.yes (by omega) (Ev.yes (by omega) (Ev.yes (by omega) (Ev.yes (by omega) (Ev.yes (by omega) ?_)))))
      rw [w64s (by omega)]
      refine ih _ ?_
      rw [hs', List.take_add_one, List.getElem?_eq_getElem hi, List.map_append]
      rfl)
  have := key 0 [] (by omega) rfl
  simpa using this
/-- Are these places of n processes? -/
def arPl (n : Nat) (l : List Int) : Bool := decide (1 ≤ n ∧ n ≤ 4) && (decide (l.length ≤ 8) && l.all fun t => inI t 1 ((2 ^ n - 1 : Nat) : Int))
theorem arePl_ev (n : Nat) (l : List Int) : impl_arePlaces.f (n : Int) l = some (arPl n l) := by
  unfold impl_arePlaces.f arPl
  rw [imInI]
  simp only [Option.bind_some]
  have h0 : inI (n : Int) 1 4 = decide (1 ≤ n ∧ n ≤ 4) := by
    unfold inI; rw [← Bool.decide_and, decide_eq_decide]; omega
  rw [h0]
  by_cases h : 1 ≤ n ∧ n ≤ 4
  · rw [decide_eq_true h]
    simp only [if_true, Bool.true_and]
    by_cases h2 : l.length ≤ 8
    · rw [if_pos (by omega), decide_eq_true h2, imOneI (by omega)]
      simp only [Option.bind_some]
      rw [fullW (by omega)]
      rfl
    · rw [if_neg (by omega), decide_eq_false h2]
      rfl
  · rw [decide_eq_false h]
    rfl
theorem spPl_ev (n : Nat) (l : List Int) (hl : l.length ≤ 1048576) (hn : n ≤ 1048576) : Ev (fun k => spec_l14Places.f k (n : Int) l) (arPl n l) := by
  have hf : ∃ z, spec_l01Full.f (n : Int) = some z ∧ (n ≤ 4 → z = ((2 ^ n - 1 : Nat) : Int)) := by
    by_cases h : n ≤ 4
    · exact ⟨_, spFullI (by omega), fun _ => rfl⟩
    · unfold spec_l01Full.f spec_l01One.f
      rw [u64i (by omega), if_pos (by omega)]
      exact ⟨_, rfl, fun h' => absurd h' h⟩
  obtain ⟨z, hz, hz4⟩ := hf
  have key := Ev.up (fun k (_ : Unit) i => spec_l14Places.l0 k (n : Int) l i) l.length (fun i _ => ((l.drop i).all fun t => inI t 1 z) && (inI (n : Int) 1 4 && decide ((l.length : Int) ≤ 8))) (fun _ _ => True)
    (fun _ _ => by
      refine Ev.round ?_
      simp only [spec_l14Places.l0]
      refine Ev.no (by omega) (Ev.here (spInI _ _ _) ?_)
      rw [List.drop_length, List.all_nil, Bool.true_and]
      cases inI (n : Int) 1 4
      · exact Ev.no (by simp) (Ev.now _)
      · exact Ev.yes rfl (Ev.now _))
    (fun i _ hi _ ih => by
      refine Ev.round ?_
      simp only [spec_l14Places.l0]
      refine Ev.yes (by omega) (Ev.yes (by omega) (Ev.here hz (Ev.here (spInI _ _ _) ?_)))
      rw [rd_lt hi, w64s (by omega), List.drop_eq_getElem_cons hi, List.all_cons]
      cases inI l[i] 1 z
      · exact Ev.no (by simp) (Ev.now _)
      · refine Ev.yes rfl ?_
        rw [Bool.true_and]
        exact ih () trivial)
  have h0 := key 0 () (by omega) trivial
  unfold spec_l14Places.f
  have e : arPl n l = (((l.drop 0).all fun t => inI t 1 z) && (inI (n : Int) 1 4 && decide ((l.length : Int) ≤ 8))) := by
    unfold arPl
    have h0 : inI (n : Int) 1 4 = decide (1 ≤ n ∧ n ≤ 4) := by
      unfold inI; rw [← Bool.decide_and, decide_eq_decide]; omega
    rw [h0, show decide ((l.length : Int) ≤ 8) = decide (l.length ≤ 8) from by rw [decide_eq_decide]; omega]
    by_cases h : 1 ≤ n ∧ n ≤ 4
    · rw [decide_eq_true h, hz4 h.2, List.drop_zero, Bool.true_and, Bool.true_and, Bool.and_comm]
    · rw [decide_eq_false h]; simp
  rw [e]
  simpa using h0
theorem allIn_all (l : List Int) (lo hi : Int) : impl_allIn.f l lo hi = some (l.all fun t => inI t lo hi) := rfl
end Go.Proofs.YthbaocejgjpfoaaDoor.U
end M8
