import Derived.ArgAppend
import Derived.Below
import Derived.BigQuiet
import Derived.Deep.AppendLies
import Derived.Deep.CutBlock
import Derived.Deep.DeepCutAuto
import Derived.Deep.Draws
import Derived.Deep.LoopGhost
import Derived.Deep.OwnRows
import Derived.Deep.QuietTactic
import Derived.Deep.RegionHeld3
import Derived.KernelRfl
import Derived.Laws.BitsLemmas
import Derived.Laws.BytesArg
import Derived.Laws.IdiomCopy
import Derived.Laws.MakeOwn
import Derived.Laws.OwnMore
import Derived.Laws.Rows
import Derived.Laws.Slices
import Derived.Laws.StructEq
import Derived.Lib.AppendStr
import Derived.Lib.ConvBytes
import Derived.Lib.SliceRun
import Derived.Maps.AppendAt
import Derived.OrdersHeld
import Derived.OwnWalk
import Derived.RowKit
import Derived.RowKit3
import Derived.Shelf.Abstract
import Derived.Shelf.Spec.TrailingZeros
import Derived.Tactics
import Derived.Test.YthbaocejgjpfoaaDoorProg
import Derived.WalkKit
import Derived.WideLaws
import Derived.Test.YthbaocejgjpfoaaDoorCFnExactExpressionText2
import Derived.Test.YthbaocejgjpfoaaDoorCFnExactExpressionText3
import Derived.Test.YthbaocejgjpfoaaDoorCFnExactExpressionText4
import Derived.Test.YthbaocejgjpfoaaDoorCFnExactExpressionText5
section M0
namespace Go.Proofs.YthbaocejgjpfoaaDoor.P
open Go.RowKit Go.Proofs.YthbaocejgjpfoaaDoor.Sh Go.Proofs.YthbaocejgjpfoaaDoorW.PrintWords Go.Proofs.YthbaocejgjpfoaaDoorW.PrintLast Go.Proofs.YthbaocejgjpfoaaDoorW.PrintMore
attribute [local go_sem] max2_int min2_int max_two min_two max_three min_three max_four min_four   -- for this text's walks alone
set_option linter.unusedVariables false
set_option linter.unusedSimpArgs false

/-! ### laws_FnExactIsFinite: function 3 -/
def laws_FnExactIsFinite.f (k : Nat) (a0_0 : Int) (l0_1 : List Int) (l1 : List (List Int)) : Option (Bool) := (laws_szAlphabet.f a0_0 l0_1 1048576).bind fun t208 => (if t208 < 0 then (some true) else ((laws_szInt64SS.f k l1 t208).bind fun t209 => (if t209 < 0 then (some true) else ((laws_toAlphabet.f k a0_0 l0_1).bind fun bt210 => ((laws_toInt64SS.f k l1).bind fun t214 => ((spec_IsFinite.f k bt210.1 bt210.2 t214).bind fun t217 => ((laws_toAlphabet.f k a0_0 l0_1).bind fun bt218 => ((laws_toInt64SS.f k l1).bind fun t223 => ((impl_IsFinite.f k bt218.1 bt218.2 t223).bind fun t226 => (if (t226 != t217) = true then (some false) else ((laws_toAlphabet.f k a0_0 l0_1).bind fun bt227 => ((laws_eqAlphabet.f k bt218.1 bt218.2 bt227.1 bt227.2).bind fun t231 => (if t231 = true then ((laws_toInt64SS.f k l1).bind fun t232 => ((laws_eqInt64SS.f k t223 t232).bind fun t235 => (if t235 = true then (some true) else (some false)))) else (some false))))))))))))))
theorem laws_FnExactIsFinite.mono : ∀ a0 a1 a2 k, LeO (laws_FnExactIsFinite.f k a0 a1 a2) (laws_FnExactIsFinite.f (k + 1) a0 a1 a2) := by
 intro a0 a1 a2 k
 unfold laws_FnExactIsFinite.f
 repeat' first
   | (with_reducible exact impl_IsFinite.mono _ _ _ _)
   | (with_reducible exact laws_eqAlphabet.mono _ _ _ _ _)
   | (with_reducible exact laws_eqInt64SS.mono _ _ _)
   | (with_reducible exact laws_szInt64SS.mono _ _ _)
   | (with_reducible exact laws_toAlphabet.mono _ _ _)
   | (with_reducible exact laws_toInt64SS.mono _ _)
   | (with_reducible exact spec_IsFinite.mono _ _ _ _)
   | (with_reducible exact LeO.refl _)
   | (with_reducible exact LeO.none _)
   | (with_reducible refine LeO.ite ?_ ?_)
   | (with_reducible refine LeO.bind ?_ (fun _ => ?_))
   | exact impl_IsFinite.mono _ _ _ _
   | exact laws_eqAlphabet.mono _ _ _ _ _
   | exact laws_eqInt64SS.mono _ _ _
   | exact laws_szInt64SS.mono _ _ _
   | exact laws_toAlphabet.mono _ _ _
   | exact laws_toInt64SS.mono _ _
   | exact spec_IsFinite.mono _ _ _ _
   | exact LeO.none _
   | refine LeO.ite ?_ ?_
   | refine LeO.bind ?_ (fun _ => ?_)
set_option maxHeartbeats 8000000 in
set_option maxRecDepth 100000 in
theorem laws_FnExactIsFinite.calls (k : Nat) (a0_0 : Int) (A0_1 : Option Addr) (c0_1 : Nat) (l0_1 : List Int) (A1 : Option Addr) (c1 : Nat) (l1 : List (List Int)) (r : Bool) (w : World) (hr0_1 : Kd.C (Kd.int .i64) w A0_1 l0_1.length l0_1) (hc0_1 : l0_1.length ≤ c0_1) (hr1 : Kd.C (Kd.slice 2 (Kd.int .i64)) w A1 l1.length l1) (hc1 : l1.length ≤ c1) (h : laws_FnExactIsFinite.f k a0_0 l0_1 l1 = some r) (hT_ : r = true) (hTab : Tab w) :
  Calls Tryd.prog 3 #[.agg #[.int .i64 a0_0, .slice A0_1 l0_1.length c0_1], .slice A1 l1.length c1] w fun e w' => e = .returned (.bool r) ∧ Below w.heap.size w w' := by
 have HTab := Aside0.mk hTab
 clear hTab
 have HT_ := Aside0.mk hT_
 clear hT_
 have hu24 := Tryd.underlying24
 have hu29 := Tryd.underlying29
 have HR0_1 := Aside0.mk hr0_1
 have HC0_1 := Aside0.mk hc0_1
 clear hr0_1 hc0_1
 have HR1 := Aside0.mk hr1
 have HC1 := Aside0.mk hc1
 clear hr1 hc1
 have HB := Aside0.mk (Below.refl w.heap.size w)
 have H : ((laws_szAlphabet.f a0_0 l0_1 1048576).bind fun t208 => (if t208 < 0 then (some true) else ((laws_szInt64SS.f k l1 t208).bind fun t209 => (if t209 < 0 then (some true) else ((laws_toAlphabet.f k a0_0 l0_1).bind fun bt210 => ((laws_toInt64SS.f k l1).bind fun t214 => ((spec_IsFinite.f k bt210.1 bt210.2 t214).bind fun t217 => ((laws_toAlphabet.f k a0_0 l0_1).bind fun bt218 => ((laws_toInt64SS.f k l1).bind fun t223 => ((impl_IsFinite.f k bt218.1 bt218.2 t223).bind fun t226 => (if (t226 != t217) = true then (some false) else ((laws_toAlphabet.f k a0_0 l0_1).bind fun bt227 => ((laws_eqAlphabet.f k bt218.1 bt218.2 bt227.1 bt227.2).bind fun t231 => (if t231 = true then ((laws_toInt64SS.f k l1).bind fun t232 => ((laws_eqInt64SS.f k t223 t232).bind fun t235 => (if t235 = true then (some true) else (some false)))) else (some false))))))))))))))) = some r := h
 clear h
 replace H := Option.bind_eq_some_iff.mp H
 obtain ⟨t208, A30, H⟩ := H
 replace H : (if t208 < 0 then (some true) else ((laws_szInt64SS.f k l1 t208).bind fun t209 => (if t209 < 0 then (some true) else ((laws_toAlphabet.f k a0_0 l0_1).bind fun bt210 => ((laws_toInt64SS.f k l1).bind fun t214 => ((spec_IsFinite.f k bt210.1 bt210.2 t214).bind fun t217 => ((laws_toAlphabet.f k a0_0 l0_1).bind fun bt218 => ((laws_toInt64SS.f k l1).bind fun t223 => ((impl_IsFinite.f k bt218.1 bt218.2 t223).bind fun t226 => (if (t226 != t217) = true then (some false) else ((laws_toAlphabet.f k a0_0 l0_1).bind fun bt227 => ((laws_eqAlphabet.f k bt218.1 bt218.2 bt227.1 bt227.2).bind fun t231 => (if t231 = true then ((laws_toInt64SS.f k l1).bind fun t232 => ((laws_eqInt64SS.f k t223 t232).bind fun t235 => (if t235 = true then (some true) else (some false)))) else (some false)))))))))))))) = some r := H
 have A3 := Aside0.mk A30
 clear A30
 by_cases c4 : t208 < 0
 ·rw [if_pos c4] at H
  have c4b0 : decide (t208 < 0) = true := decide_eq_true c4
  clear c4
  obtain rfl := Option.some.inj H
  go_enter Tryd.func3, Tryd.ntmps3
  go_wp2_with (first | ((with_reducible refine gate_dst (N := 2) rfl ?_); refine boxS (N := 2) (cs := #[.int .i64 a0_0, .slice A0_1 l0_1.length c0_1]) (t := 24) ?_; intro gb207 hg w5 hbox hb; have n0_ := Aside0.mk (below_step (bW) hb); have n1_ := Aside0.mk (hbox); have n2_ := geW (w := w) hg; have n3_ := geW (w := w) hg; clear HB; have HB := n0_; have BK207 := n1_; have GW207 := n2_; have GE207 := n3_; clear n0_ n1_ n2_ n3_; clear hb hbox hg; obtain ⟨hcz6_0, hcz6_1⟩ := cells2 BK207.out; obtain ⟨hfz6_0, hfz6_1⟩ := frz2 BK207.out) | ((with_reducible refine gate_callee (f := 12) rfl ?_); refine goesS (some 12) Tryd.func12 #[.agg #[.int .i64 a0_0, .slice A0_1 l0_1.length c0_1], .int .i64 1048576] ?_; (with_reducible refine (laws_szAlphabet.calls a0_0 _ _ l0_1 1048576 t208 _ ?side1 ?side2 A3.out).mono ?_); (case side1 => exact cP (Kd.C_below HR0_1.out HB.out)); (case side2 => exact HC0_1.out); rintro e w7 ⟨rfl, hb⟩; refine ⟨_, rfl, ?_⟩; have n0_ := Aside0.mk (blkB BK207.out hb); have n1_ := Aside0.mk (below_step (bW) hb); clear BK207; clear HB; have BK207 := n0_; have HB := n1_; clear n0_ n1_; (try clear hb); (try clear hb2); (try clear hk); (try clear hi)))
  go_ret
  exact ⟨eW, bW⟩
 ·rw [if_neg c4] at H
  have c4b0 : decide (t208 < 0) = false := decide_eq_false c4
  clear c4
  replace H := Option.bind_eq_some_iff.mp H
  obtain ⟨t209, A80, H⟩ := H
  replace H : (if t209 < 0 then (some true) else ((laws_toAlphabet.f k a0_0 l0_1).bind fun bt210 => ((laws_toInt64SS.f k l1).bind fun t214 => ((spec_IsFinite.f k bt210.1 bt210.2 t214).bind fun t217 => ((laws_toAlphabet.f k a0_0 l0_1).bind fun bt218 => ((laws_toInt64SS.f k l1).bind fun t223 => ((impl_IsFinite.f k bt218.1 bt218.2 t223).bind fun t226 => (if (t226 != t217) = true then (some false) else ((laws_toAlphabet.f k a0_0 l0_1).bind fun bt227 => ((laws_eqAlphabet.f k bt218.1 bt218.2 bt227.1 bt227.2).bind fun t231 => (if t231 = true then ((laws_toInt64SS.f k l1).bind fun t232 => ((laws_eqInt64SS.f k t223 t232).bind fun t235 => (if t235 = true then (some true) else (some false)))) else (some false)))))))))))) = some r := H
  have A8 := Aside0.mk A80
  clear A80
  by_cases c9 : t209 < 0
  ·rw [if_pos c9] at H
   have c9b0 : decide (t209 < 0) = true := decide_eq_true c9
   clear c9
   obtain rfl := Option.some.inj H
   go_enter Tryd.func3, Tryd.ntmps3
   go_wp2_with (first | ((with_reducible refine gate_dst (N := 2) rfl ?_); refine boxS (N := 2) (cs := #[.int .i64 a0_0, .slice A0_1 l0_1.length c0_1]) (t := 24) ?_; intro gb207 hg w10 hbox hb; have n0_ := Aside0.mk (below_step (bW) hb); have n1_ := Aside0.mk (hbox); have n2_ := geW (w := w) hg; have n3_ := geW (w := w) hg; clear HB; have HB := n0_; have BK207 := n1_; have GW207 := n2_; have GE207 := n3_; clear n0_ n1_ n2_ n3_; clear hb hbox hg; obtain ⟨hcz11_0, hcz11_1⟩ := cells2 BK207.out; obtain ⟨hfz11_0, hfz11_1⟩ := frz2 BK207.out) | ((with_reducible refine gate_callee (f := 12) rfl ?_); refine goesS (some 12) Tryd.func12 #[.agg #[.int .i64 a0_0, .slice A0_1 l0_1.length c0_1], .int .i64 1048576] ?_; (with_reducible refine (laws_szAlphabet.calls a0_0 _ _ l0_1 1048576 t208 _ ?side1 ?side2 A3.out).mono ?_); (case side1 => exact cP (Kd.C_below HR0_1.out HB.out)); (case side2 => exact HC0_1.out); rintro e w12 ⟨rfl, hb⟩; refine ⟨_, rfl, ?_⟩; have n0_ := Aside0.mk (blkB BK207.out hb); have n1_ := Aside0.mk (below_step (bW) hb); clear BK207; clear HB; have BK207 := n0_; have HB := n1_; clear n0_ n1_; (try clear hb); (try clear hb2); (try clear hk); (try clear hi)) | ((with_reducible refine gate_callee (f := 13) rfl ?_); refine goesS (some 17) Tryd.func13 #[.slice A1 l1.length c1, .int .i64 t208] ?_; (with_reducible refine (laws_szInt64SS.calls k _ _ l1 t208 t209 _ ?side1 ?side2 A8.out).mono ?_); (case side1 => exact cP (Kd.C_below HR1.out HB.out)); (case side2 => exact HC1.out); rintro e w' ⟨rfl, ⟨nd, rfl⟩⟩; refine ⟨_, rfl, ?_⟩))
   go_ret
   exact ⟨eW, bW⟩
  ·rw [if_neg c9] at H
   have c9b0 : decide (t209 < 0) = false := decide_eq_false c9
   clear c9
   replace H := Option.bind_eq_some_iff.mp H
   obtain ⟨⟨t210, t211⟩, A130, H⟩ := H
   replace H : ((laws_toInt64SS.f k l1).bind fun t214 => ((spec_IsFinite.f k t210 t211 t214).bind fun t217 => ((laws_toAlphabet.f k a0_0 l0_1).bind fun bt218 => ((laws_toInt64SS.f k l1).bind fun t223 => ((impl_IsFinite.f k bt218.1 bt218.2 t223).bind fun t226 => (if (t226 != t217) = true then (some false) else ((laws_toAlphabet.f k a0_0 l0_1).bind fun bt227 => ((laws_eqAlphabet.f k bt218.1 bt218.2 bt227.1 bt227.2).bind fun t231 => (if t231 = true then ((laws_toInt64SS.f k l1).bind fun t232 => ((laws_eqInt64SS.f k t223 t232).bind fun t235 => (if t235 = true then (some true) else (some false)))) else (some false)))))))))) = some r := H
   have A13 := Aside0.mk A130
   clear A130
   replace H := Option.bind_eq_some_iff.mp H
   obtain ⟨t214, A140, H⟩ := H
   replace H : ((spec_IsFinite.f k t210 t211 t214).bind fun t217 => ((laws_toAlphabet.f k a0_0 l0_1).bind fun bt218 => ((laws_toInt64SS.f k l1).bind fun t223 => ((impl_IsFinite.f k bt218.1 bt218.2 t223).bind fun t226 => (if (t226 != t217) = true then (some false) else ((laws_toAlphabet.f k a0_0 l0_1).bind fun bt227 => ((laws_eqAlphabet.f k bt218.1 bt218.2 bt227.1 bt227.2).bind fun t231 => (if t231 = true then ((laws_toInt64SS.f k l1).bind fun t232 => ((laws_eqInt64SS.f k t223 t232).bind fun t235 => (if t235 = true then (some true) else (some false)))) else (some false))))))))) = some r := H
   have A14 := Aside0.mk A140
   clear A140
   replace H := Option.bind_eq_some_iff.mp H
   obtain ⟨t217, A150, H⟩ := H
   replace H : ((laws_toAlphabet.f k a0_0 l0_1).bind fun bt218 => ((laws_toInt64SS.f k l1).bind fun t223 => ((impl_IsFinite.f k bt218.1 bt218.2 t223).bind fun t226 => (if (t226 != t217) = true then (some false) else ((laws_toAlphabet.f k a0_0 l0_1).bind fun bt227 => ((laws_eqAlphabet.f k bt218.1 bt218.2 bt227.1 bt227.2).bind fun t231 => (if t231 = true then ((laws_toInt64SS.f k l1).bind fun t232 => ((laws_eqInt64SS.f k t223 t232).bind fun t235 => (if t235 = true then (some true) else (some false)))) else (some false)))))))) = some r := H
   have A15 := Aside0.mk A150
   clear A150
   replace H := Option.bind_eq_some_iff.mp H
   obtain ⟨⟨t218, t219⟩, A160, H⟩ := H
   replace H : ((laws_toInt64SS.f k l1).bind fun t223 => ((impl_IsFinite.f k t218 t219 t223).bind fun t226 => (if (t226 != t217) = true then (some false) else ((laws_toAlphabet.f k a0_0 l0_1).bind fun bt227 => ((laws_eqAlphabet.f k t218 t219 bt227.1 bt227.2).bind fun t231 => (if t231 = true then ((laws_toInt64SS.f k l1).bind fun t232 => ((laws_eqInt64SS.f k t223 t232).bind fun t235 => (if t235 = true then (some true) else (some false)))) else (some false))))))) = some r := H
   have A16 := Aside0.mk A160
   clear A160
   replace H := Option.bind_eq_some_iff.mp H
   obtain ⟨t223, A170, H⟩ := H
   replace H : ((impl_IsFinite.f k t218 t219 t223).bind fun t226 => (if (t226 != t217) = true then (some false) else ((laws_toAlphabet.f k a0_0 l0_1).bind fun bt227 => ((laws_eqAlphabet.f k t218 t219 bt227.1 bt227.2).bind fun t231 => (if t231 = true then ((laws_toInt64SS.f k l1).bind fun t232 => ((laws_eqInt64SS.f k t223 t232).bind fun t235 => (if t235 = true then (some true) else (some false)))) else (some false)))))) = some r := H
   have A17 := Aside0.mk A170
   clear A170
   replace H := Option.bind_eq_some_iff.mp H
   obtain ⟨t226, A180, H⟩ := H
   replace H : (if (t226 != t217) = true then (some false) else ((laws_toAlphabet.f k a0_0 l0_1).bind fun bt227 => ((laws_eqAlphabet.f k t218 t219 bt227.1 bt227.2).bind fun t231 => (if t231 = true then ((laws_toInt64SS.f k l1).bind fun t232 => ((laws_eqInt64SS.f k t223 t232).bind fun t235 => (if t235 = true then (some true) else (some false)))) else (some false))))) = some r := H
   have A18 := Aside0.mk A180
   clear A180
   by_cases c19 : (t226 != t217) = true
   ·rw [if_pos c19] at H
    have c19b0 : (t226 != t217) = true := c19
    (try (have c19b1 : decide (t226 = t217) = false := by simpa using c19))
    (try (have c19b2 : (t226 == t217) = false := by simpa using c19))
    (try (have c19b3 : ¬ (t226 = t217) := by simpa using c19))
    clear c19
    exact absurd (Option.some.inj H) (by rw [HT_.out]; decide)
   ·rw [if_neg c19] at H
    have c19b0 : (t226 != t217) = false := by simpa using c19
    (try (have c19b1 : decide (t226 = t217) = true := by simpa using c19))
    (try (have c19b2 : (t226 == t217) = true := by simpa using c19))
    clear c19
    replace H := Option.bind_eq_some_iff.mp H
    obtain ⟨⟨t227, t228⟩, A200, H⟩ := H
    replace H : ((laws_eqAlphabet.f k t218 t219 t227 t228).bind fun t231 => (if t231 = true then ((laws_toInt64SS.f k l1).bind fun t232 => ((laws_eqInt64SS.f k t223 t232).bind fun t235 => (if t235 = true then (some true) else (some false)))) else (some false))) = some r := H
    have A20 := Aside0.mk A200
    clear A200
    replace H := Option.bind_eq_some_iff.mp H
    obtain ⟨t231, A210, H⟩ := H
    replace H : (if t231 = true then ((laws_toInt64SS.f k l1).bind fun t232 => ((laws_eqInt64SS.f k t223 t232).bind fun t235 => (if t235 = true then (some true) else (some false)))) else (some false)) = some r := H
    have A21 := Aside0.mk A210
    clear A210
    by_cases c22 : t231 = true
    ·subst c22
     have H1 : ((laws_toInt64SS.f k l1).bind fun t232 => ((laws_eqInt64SS.f k t223 t232).bind fun t235 => (if t235 = true then (some true) else (some false)))) = some r := by rw [if_pos rfl] at H; exact H
     clear H
     have H := H1
     clear H1
     replace H := Option.bind_eq_some_iff.mp H
     obtain ⟨t232, A230, H⟩ := H
     replace H : ((laws_eqInt64SS.f k t223 t232).bind fun t235 => (if t235 = true then (some true) else (some false))) = some r := H
     have A23 := Aside0.mk A230
     clear A230
     replace H := Option.bind_eq_some_iff.mp H
     obtain ⟨t235, A240, H⟩ := H
     replace H : (if t235 = true then (some true) else (some false)) = some r := H
     have A24 := Aside0.mk A240
     clear A240
     by_cases c25 : t235 = true
     ·subst c25
      have H1 : (some true) = some r := by rw [if_pos rfl] at H; exact H
      clear H
      have H := H1
      clear H1
      obtain rfl := Option.some.inj H
      go_enter Tryd.func3, Tryd.ntmps3
      try go_wp2_with (first | ((with_reducible refine gate_dst (N := 2) rfl ?_); refine boxS (N := 2) (cs := #[.int .i64 a0_0, .slice A0_1 l0_1.length c0_1]) (t := 24) ?_; intro gb207 hg w26 hbox hb; have n0_ := Aside0.mk (below_step (bW) hb); have n1_ := Aside0.mk (hbox); have n2_ := geW (w := w) hg; have n3_ := geW (w := w) hg; clear HB; have HB := n0_; have BK207 := n1_; have GW207 := n2_; have GE207 := n3_; clear n0_ n1_ n2_ n3_; clear hb hbox hg; obtain ⟨hcz27_0, hcz27_1⟩ := cells2 BK207.out; obtain ⟨hfz27_0, hfz27_1⟩ := frz2 BK207.out) | ((with_reducible refine gate_callee (f := 12) rfl ?_); refine goesS (some 12) Tryd.func12 #[.agg #[.int .i64 a0_0, .slice A0_1 l0_1.length c0_1], .int .i64 1048576] ?_; (with_reducible refine (laws_szAlphabet.calls a0_0 _ _ l0_1 1048576 t208 _ ?side1 ?side2 A3.out).mono ?_); (case side1 => exact cP (Kd.C_below HR0_1.out HB.out)); (case side2 => exact HC0_1.out); rintro e w28 ⟨rfl, hb⟩; refine ⟨_, rfl, ?_⟩; have n0_ := Aside0.mk (blkB BK207.out hb); have n1_ := Aside0.mk (below_step (bW) hb); clear BK207; clear HB; have BK207 := n0_; have HB := n1_; clear n0_ n1_; (try clear hb); (try clear hb2); (try clear hk); (try clear hi)) | ((with_reducible refine gate_callee (f := 13) rfl ?_); refine goesS (some 17) Tryd.func13 #[.slice A1 l1.length c1, .int .i64 t208] ?_; (with_reducible refine (laws_szInt64SS.calls k _ _ l1 t208 t209 _ ?side1 ?side2 A8.out).mono ?_); (case side1 => exact cP (Kd.C_below HR1.out HB.out)); (case side2 => exact HC1.out); rintro e w' ⟨rfl, ⟨nd, rfl⟩⟩; refine ⟨_, rfl, ?_⟩; (try ((repeat rw [World.drewN_drewN w28]); (first | generalize hq_ : World.drewN w28 _ = w28 | (rw [drewN_self w28]; generalize hq_ : World.drewN w28 _ = w28)); have n0_ : Aside0 (w28.heap[gb207]? = some (.cells #[.int .i64 a0_0, .slice A0_1 l0_1.length c0_1] 24 (0, 0))) := ⟨by rw [← hq_]; exact (bP BK207.out)⟩; have n1_ : Aside0 (Below w.heap.size w w28) := ⟨by rw [← hq_]; exact (bW)⟩; clear BK207 HB hq_; have BK207 := n0_; have HB := n1_; clear n0_ n1_)); obtain ⟨hcz29_0, hcz29_1⟩ := cells2 BK207.out; obtain ⟨hfz29_0, hfz29_1⟩ := frz2 BK207.out) | ((with_reducible refine gate_callee (f := 15) rfl ?_); refine goesS (some 21) Tryd.func15 #[.agg #[.int .i64 a0_0, .slice A0_1 l0_1.length c0_1]] ?_; (with_reducible refine (laws_toAlphabet.calls k a0_0 _ _ l0_1 t210 t211 _ ?side1 ?side2 A13.out).mono ?_); (case side1 => exact cP (Kd.C_below HR0_1.out HB.out)); (case side2 => exact HC0_1.out); rintro e w30 ⟨v212, rfl, ho0, hb⟩; refine ⟨_, rfl, ?_⟩; have n0_ := Aside0.mk (Kd.R_lower ho0 (below_size (bW))); have n1_ := Aside0.mk (blkB BK207.out hb); have n2_ := Aside0.mk (below_step (bW) hb); clear BK207; clear HB; have HO213 := n0_; have BK207 := n1_; have HB := n2_; clear n0_ n1_ n2_; (try clear hb); (try clear hb2); (try clear hk); (try clear hi); (try clear ho0)) | ((with_reducible refine gate_callee (f := 16) rfl ?_); refine goesS (some 23) Tryd.func16 #[.slice A1 l1.length c1] ?_; (with_reducible refine (laws_toInt64SS.calls k _ _ l1 t214 _ ?side1 ?side2 A14.out).mono ?_); (case side1 => exact cP (Kd.C_below HR1.out HB.out)); (case side2 => exact HC1.out); rintro e w31 ⟨v215, rfl, ho0, hb⟩; refine ⟨_, rfl, ?_⟩; have n0_ := Aside0.mk (Kd.R_below (rP HO213.out) hb); have n1_ := Aside0.mk (Kd.S_lower (Kd.S_new' ho0 (Kd.R_lt (rP HO213.out))) (below_size (bW))); have n2_ := Aside0.mk (blkB BK207.out hb); have n3_ := Aside0.mk (below_step (bW) hb); clear HO213; clear BK207; clear HB; have HO213 := n0_; have HO216 := n1_; have BK207 := n2_; have HB := n3_; clear n0_ n1_ n2_ n3_; (try clear hb); (try clear hb2); (try clear hk); (try clear hi); (try clear ho0); obtain ⟨Ao32, co32, eo32⟩ := Kd.R_slice HO213.out; subst eo32; obtain ⟨Ao33, co33, eo33⟩ := Kd.S_slice HO216.out; subst eo33) | ((with_reducible refine gate_callee (f := 14) rfl ?_); refine goesS (some 24) Tryd.func14 #[.agg #[.int .i64 t210, .slice Ao32 t211.length co32], .slice Ao33 t214.length co33] ?_; (with_reducible refine (spec_IsFinite.calls k t210 _ _ t211 _ _ t214 t217 _ ?side1 ?side2 ?side3 ?side4 A15.out).mono ?_); (case side1 => exact cP ((Kd.R_reads' HO213.out).2.2)); (case side2 => exact (Kd.R_reads' HO213.out).2.1); (case side3 => exact cP ((Kd.S_reads' HO216.out).2.2)); (case side4 => exact (Kd.S_reads' HO216.out).2.1); rintro e w34 ⟨rfl, hb⟩; refine ⟨_, rfl, ?_⟩; have n0_ := Aside0.mk (Kd.R_below (rP HO213.out) hb); have n1_ := Aside0.mk (Kd.S_below (sP HO216.out) hb); have n2_ := Aside0.mk (blkB BK207.out hb); have n3_ := Aside0.mk (below_step (bW) hb); clear HO213; clear HO216; clear BK207; clear HB; have HO213 := n0_; have HO216 := n1_; have BK207 := n2_; have HB := n3_; clear n0_ n1_ n2_ n3_; (try clear hb); (try clear hb2); (try clear hk); (try clear hi); obtain ⟨hcz35_0, hcz35_1⟩ := cells2 BK207.out; obtain ⟨hfz35_0, hfz35_1⟩ := frz2 BK207.out) | ((with_reducible refine gate_callee (f := 15) rfl ?_); refine goesS (some 26) Tryd.func15 #[.agg #[.int .i64 a0_0, .slice A0_1 l0_1.length c0_1]] ?_; (with_reducible refine (laws_toAlphabet.calls k a0_0 _ _ l0_1 t218 t219 _ ?side1 ?side2 A16.out).mono ?_); (case side1 => exact cP (Kd.C_below HR0_1.out HB.out)); (case side2 => exact HC0_1.out); rintro e w36 ⟨v220, rfl, ho0, hb⟩; refine ⟨_, rfl, ?_⟩; have n0_ := Aside0.mk (Kd.R_elder' (rP HO213.out) (Kd.R_base ho0) hb); have n1_ := Aside0.mk (Kd.S_elder' (sP HO216.out) (Kd.R_base ho0) hb); have n2_ := Aside0.mk (Kd.R_lower (Kd.R_new' ho0 (Kd.R_lt (rP HO213.out))) (below_size (bW))); have n3_ := Aside0.mk (blkB BK207.out hb); have n4_ := Aside0.mk (below_step (bW) hb); clear HO213; clear HO216; clear BK207; clear HB; have HO213 := n0_; have HO216 := n1_; have HO221 := n2_; have BK207 := n3_; have HB := n4_; clear n0_ n1_ n2_ n3_ n4_; (try clear hb); (try clear hb2); (try clear hk); (try clear hi); (try clear ho0)) | ((with_reducible refine gate_dst (N := 7) rfl ?_); refine boxS (N := 7) (cs := #[.int .i64 0, .slice none 0 0]) (t := 29) ?_; intro gb222 hg w37 hbox hb; have n0_ := Aside0.mk (Kd.R_below (rP HO213.out) hb); have n1_ := Aside0.mk (Kd.S_below (sP HO216.out) hb); have n2_ := Aside0.mk (Kd.R_below (rP HO221.out) hb); have n3_ := Aside0.mk (blkB BK207.out hb); have n4_ := Aside0.mk (below_step (bW) hb); have n5_ := Aside0.mk (hbox); have n6_ := geW (w := w) hg; have n7_ := geW (w := w) hg; have n8_ := Aside0.mk ((by rw [hg]; exact Nat.ne_of_lt (blk_lt (g := gb207) (o := .cells #[.int .i64 a0_0, .slice A0_1 l0_1.length c0_1] 24 (0, 0)) (bP BK207.out)) : gb207 ≠ gb222)); have n9_ := Aside0.mk ((by rw [hg]; exact Nat.ne_of_gt (blk_lt (g := gb207) (o := .cells #[.int .i64 a0_0, .slice A0_1 l0_1.length c0_1] 24 (0, 0)) (bP BK207.out)) : gb222 ≠ gb207)); clear HO213; clear HO216; clear HO221; clear BK207; clear HB; have HO213 := n0_; have HO216 := n1_; have HO221 := n2_; have BK207 := n3_; have HB := n4_; have BK222 := n5_; have GW222 := n6_; have GE222 := n7_; have NB207_222 := n8_; have NB222_207 := n9_; clear n0_ n1_ n2_ n3_ n4_ n5_ n6_ n7_ n8_ n9_; clear hb hbox hg; have hnb38 := NB222_207.out; have hnc38 := NB207_222.out; obtain ⟨hcz39_0, hcz39_1⟩ := cells2 BK222.out; obtain ⟨hfz39_0, hfz39_1⟩ := frz2 BK222.out; obtain ⟨Ao40, co40, eo40⟩ := Kd.R_slice HO221.out; subst eo40) | ((with_reducible refine gate_callee (f := 16) rfl ?_); refine goesS (some 28) Tryd.func16 #[.slice A1 l1.length c1] ?_; (with_reducible refine (laws_toInt64SS.calls k _ _ l1 t223 _ ?side1 ?side2 A17.out).mono ?_); (case side1 => exact Kd.C_below HR1.out (bW)); (case side2 => exact HC1.out); rintro e w41 ⟨v224, rfl, ho0, hb⟩; refine ⟨_, rfl, ?_⟩; have n0_ := Aside0.mk (Kd.R_below (by (with_reducible repeat (first | apply Kd.R_alloc | apply Kd.R_drewN | apply Kd.R_drew)); exact (Kd.R_mono (Kd.R_far (p := ⟨gb222, 1, none⟩) (Kd.R_far (p := ⟨gb222, 0, none⟩) (Kd.R_types HO213.out BK222.out (by decide)) (fun _ hk => hk.2) (.int .i64 t218)) (fun _ hk => hk.2) (.slice Ao40 t219.length co40)) (fun _ h_ => h_.1))) hb); have n1_ := Aside0.mk (Kd.S_elder' (by (with_reducible repeat (first | apply Kd.S_alloc | apply Kd.S_drewN | apply Kd.S_drew)); exact (Kd.S_mono (Kd.S_far (p := ⟨gb222, 1, none⟩) (Kd.S_far (p := ⟨gb222, 0, none⟩) (Kd.S_types HO216.out BK222.out (by decide)) (fun _ hk => hk.2) (.int .i64 t218)) (fun _ hk => hk.2) (.slice Ao40 t219.length co40)) (fun _ h_ => h_.1))) (Kd.S_base ho0) hb); have n2_ := Aside0.mk (Kd.R_below (by (with_reducible repeat (first | apply Kd.R_alloc | apply Kd.R_drewN | apply Kd.R_drew)); exact (Kd.R_mono (Kd.R_far (p := ⟨gb222, 1, none⟩) (Kd.R_far (p := ⟨gb222, 0, none⟩) (Kd.R_types HO221.out BK222.out (by decide)) (fun _ hk => hk.2) (.int .i64 t218)) (fun _ hk => hk.2) (.slice Ao40 t219.length co40)) (fun _ h_ => h_.1))) hb); have n3_ := Aside0.mk (Kd.S_lower (Kd.S_new' (Kd.S_new' (Kd.S_new' ho0 (Kd.R_lt (by (with_reducible repeat (first | apply Kd.R_alloc | apply Kd.R_drewN | apply Kd.R_drew)); exact (Kd.R_mono (Kd.R_far (p := ⟨gb222, 1, none⟩) (Kd.R_far (p := ⟨gb222, 0, none⟩) (Kd.R_types HO213.out BK222.out (by decide)) (fun _ hk => hk.2) (.int .i64 t218)) (fun _ hk => hk.2) (.slice Ao40 t219.length co40)) (fun _ h_ => h_.1))))) (Kd.S_lt (by (with_reducible repeat (first | apply Kd.S_alloc | apply Kd.S_drewN | apply Kd.S_drew)); exact (Kd.S_mono (Kd.S_far (p := ⟨gb222, 1, none⟩) (Kd.S_far (p := ⟨gb222, 0, none⟩) (Kd.S_types HO216.out BK222.out (by decide)) (fun _ hk => hk.2) (.int .i64 t218)) (fun _ hk => hk.2) (.slice Ao40 t219.length co40)) (fun _ h_ => h_.1))))) (Kd.R_lt (by (with_reducible repeat (first | apply Kd.R_alloc | apply Kd.R_drewN | apply Kd.R_drew)); exact (Kd.R_mono (Kd.R_far (p := ⟨gb222, 1, none⟩) (Kd.R_far (p := ⟨gb222, 0, none⟩) (Kd.R_types HO221.out BK222.out (by decide)) (fun _ hk => hk.2) (.int .i64 t218)) (fun _ hk => hk.2) (.slice Ao40 t219.length co40)) (fun _ h_ => h_.1))))) (below_size (bW))); have n4_ := Aside0.mk (blk_below (g := gb207) (o := .cells #[.int .i64 a0_0, .slice A0_1 l0_1.length c0_1] 24 (0, 0)) (by (with_reducible repeat (first | refine blk_drewN ?_ _ | refine blk_drew ?_ | refine blk_alloc ?_ _)); refine blk_far ?_ NB207_222.out _; (with_reducible repeat (first | refine blk_drewN ?_ _ | refine blk_drew ?_ | refine blk_alloc ?_ _)); refine blk_far ?_ NB207_222.out _; exact bP BK207.out) hb); have n5_ := Aside0.mk (blk_below (g := gb222) (o := .cells #[.int .i64 t218, .slice Ao40 t219.length co40] 29 (0, 0)) (by (with_reducible repeat (first | refine blk_drewN ?_ _ | refine blk_drew ?_ | refine blk_alloc ?_ _)); refine blk_put (cs := #[.int .i64 t218, .slice none 0 0]) ?_ 1 _ rfl; (with_reducible repeat (first | refine blk_drewN ?_ _ | refine blk_drew ?_ | refine blk_alloc ?_ _)); refine blk_put (cs := #[.int .i64 0, .slice none 0 0]) ?_ 0 _ rfl; exact bP BK222.out) hb); have n6_ := Aside0.mk (below_step (bW) hb); clear HO213; clear HO216; clear HO221; clear BK207; clear BK222; clear HB; have HO213 := n0_; have HO216 := n1_; have HO221 := n2_; have HO225 := n3_; have BK207 := n4_; have BK222 := n5_; have HB := n6_; clear n0_ n1_ n2_ n3_ n4_ n5_ n6_; (try clear hb); (try clear hb2); (try clear hk); (try clear hi); (try clear ho0); obtain ⟨hcz42_0, hcz42_1⟩ := cells2 BK222.out; obtain ⟨hfz42_0, hfz42_1⟩ := frz2 BK222.out; obtain ⟨Ao43, co43, eo43⟩ := Kd.S_slice HO225.out; subst eo43) | ((with_reducible refine gate_callee (f := 17) rfl ?_); refine goesS (some 31) Tryd.func17 #[.agg #[.int .i64 t218, .slice Ao40 t219.length co40], .slice Ao43 t223.length co43] ?_; (with_reducible refine (impl_IsFinite.calls k t218 _ _ t219 _ _ t223 t226 _ ?side1 ?side2 ?side3 ?side4 A18.out (tabW HTab.out)).mono ?_); (case side1 => exact cP ((Kd.R_reads' HO221.out).2.2)); (case side2 => exact (Kd.R_reads' HO221.out).2.1); (case side3 => exact cP ((Kd.S_reads' HO225.out).2.2)); (case side4 => exact (Kd.S_reads' HO225.out).2.1); rintro e w44 ⟨rfl, hb⟩; refine ⟨_, rfl, ?_⟩; have n0_ := Aside0.mk (Kd.R_below (rP HO213.out) hb); have n1_ := Aside0.mk (Kd.S_below (sP HO216.out) hb); have n2_ := Aside0.mk (Kd.R_below (rP HO221.out) hb); have n3_ := Aside0.mk (Kd.S_below (sP HO225.out) hb); have n4_ := Aside0.mk (blkB BK207.out hb); have n5_ := Aside0.mk (blkB BK222.out hb); have n6_ := Aside0.mk (below_step (bW) hb); clear HO213; clear HO216; clear HO221; clear HO225; clear BK207; clear BK222; clear HB; have HO213 := n0_; have HO216 := n1_; have HO221 := n2_; have HO225 := n3_; have BK207 := n4_; have BK222 := n5_; have HB := n6_; clear n0_ n1_ n2_ n3_ n4_ n5_ n6_; (try clear hb); (try clear hb2); (try clear hk); (try clear hi)))
      have n0_ := Aside0.mk (Kd.R_drew HO213.out)
      have n1_ := Aside0.mk (Kd.S_drew HO216.out)
      have n2_ := Aside0.mk (Kd.R_drew HO221.out)
      have n3_ := Aside0.mk (Kd.S_drew HO225.out)
      have n4_ := Aside0.mk (blk_drew BK207.out)
      have n5_ := Aside0.mk (blk_drew BK222.out)
      have n6_ := Aside0.mk (below_drew1 HB.out)
      clear HO213
      clear HO216
      clear HO221
      clear HO225
      clear BK207
      clear BK222
      clear HB
      have HO213 := n0_
      have HO216 := n1_
      have HO221 := n2_
      have HO225 := n3_
      have BK207 := n4_
      have BK222 := n5_
      have HB := n6_
      clear n0_ n1_ n2_ n3_ n4_ n5_ n6_
      refine start_ (n := 5) (S := fun w' => w'.cell? ⟨gb222, 0, none⟩ = some (.int .i64 t218) ∧ w'.cell? ⟨gb222, 1, none⟩ = some (.slice Ao40 t219.length co40) ∧ w'.cell? ⟨gb207, 0, none⟩ = some (.int .i64 a0_0) ∧ w'.cell? ⟨gb207, 1, none⟩ = some (.slice A0_1 l0_1.length c0_1)) (ds := []) #[false, false, false, false, false] (by kernel_rfl) rfl rfl ⟨(blk_cell BK222.out 0).trans rfl, (blk_cell BK222.out 1).trans rfl, (blk_cell BK207.out 0).trans rfl, (blk_cell BK207.out 1).trans rfl⟩ (fun hHeld => ?_)
      generalize w44.drew = w45 at HO213 HO216 HO221 HO225 BK207 BK222 HB hHeld ⊢
      refine takeS (i := 0) (N := some 35) (by kernel_rfl) hHeld ?_
      refine takeS (i := 1) (N := some 36) (by kernel_rfl) hHeld ?_
      refine one_ (i := 2) (N := some 37) #[true, true, true, false, false] rfl rfl (by kernel_rfl) (by decide) (fun K hK => ?_)
      refine goes_ Tryd.func15 (by kernel_rfl) rfl #[.agg #[.int .i64 a0_0, .slice A0_1 l0_1.length c0_1]] (by rfl) rfl rfl (by (try simp only [List.map_toArray, List.map_cons, List.map_nil]); first | done | rfl | (simp only [List.length_drop, List.length_take]; rfl)) ?_
      with_reducible refine (laws_toAlphabet.calls k a0_0 _ _ l0_1 t227 t228 _ ?side1 ?side2 A20.out).mono ?_
      (case side1 => exact cP (Kd.C_below HR0_1.out HB.out))
      (case side2 => exact HC0_1.out)
      rintro e w46 ⟨v229, rfl, ho0, hb⟩
      refine ⟨_, rfl, ?_⟩
      have n0_ := Aside0.mk (Kd.R_elder' (rP HO213.out) (Kd.R_base ho0) hb)
      have n1_ := Aside0.mk (Kd.S_elder' (sP HO216.out) (Kd.R_base ho0) hb)
      have n2_ := Aside0.mk (Kd.R_elder' (rP HO221.out) (Kd.R_base ho0) hb)
      have n3_ := Aside0.mk (Kd.S_elder' (sP HO225.out) (Kd.R_base ho0) hb)
      have n4_ := Aside0.mk (Kd.R_lower (Kd.R_new' (Kd.R_new' ho0 (Kd.R_lt (rP HO213.out))) (Kd.R_lt (rP HO221.out))) (below_size (bW)))
      have n5_ := Aside0.mk (blkB BK207.out hb)
      have n6_ := Aside0.mk (blkB BK222.out hb)
      have n7_ := Aside0.mk (below_step (bW) hb)
      clear HO213
      clear HO216
      clear HO221
      clear HO225
      clear BK207
      clear BK222
      clear HB
      have HO213 := n0_
      have HO216 := n1_
      have HO221 := n2_
      have HO225 := n3_
      have HO230 := n4_
      have BK207 := n5_
      have BK222 := n6_
      have HB := n7_
      clear n0_ n1_ n2_ n3_ n4_ n5_ n6_ n7_
      (try clear hb)
      (try clear hb2)
      (try clear hk)
      (try clear hi)
      (try clear ho0)
      obtain ⟨Ao47, co47, eo47⟩ := Kd.R_slice HO230.out
      (first | subst eo47 | (injection eo47 with f1_ f2_ f3_; have f4_ := f1_.symm; have f5_ := f3_.symm; clear f1_ f2_ f3_; subst f4_; subst f5_))
      refine hK.out _ _ ⟨(blk_cell BK222.out 0).trans rfl, (blk_cell BK222.out 1).trans rfl, (blk_cell BK207.out 0).trans rfl, (blk_cell BK207.out 1).trans rfl⟩ (fun hHeld => ?_)
      clear hK K
      refine norm_ (a' := ?_) ?_ ?_
      rotate_left
      ·show Act.put _ (some 37) _ = _
       simp only [Act.put, List.setIfInBounds_toArray, List.set_cons_zero, List.set_cons_succ, i64_w, i32_w]
       rfl
      refine one_ (i := 3) (N := some 38) #[true, true, true, true, false] rfl rfl (by kernel_rfl) (by decide) (fun K hK => ?_)
      refine goes_ Tryd.func18 (by kernel_rfl) rfl #[.agg #[.int .i64 t218, .slice Ao40 t219.length co40], .agg #[.int .i64 t227, .slice Ao47 t228.length co47]] (by rfl) rfl rfl (by (try simp only [List.map_toArray, List.map_cons, List.map_nil]); first | done | rfl | (simp only [List.length_drop, List.length_take]; rfl)) ?_
      with_reducible refine (laws_eqAlphabet.calls k t218 _ _ t219 t227 _ _ t228 true _ ?side1 ?side2 ?side3 ?side4 A21.out).mono ?_
      (case side1 => exact cP ((Kd.R_reads' HO221.out).2.2))
      (case side2 => exact (Kd.R_reads' HO221.out).2.1)
      (case side3 => exact cP ((Kd.R_reads' HO230.out).2.2))
      (case side4 => exact (Kd.R_reads' HO230.out).2.1)
      rintro e w48 ⟨rfl, hb⟩
      refine ⟨_, rfl, ?_⟩
      have n0_ := Aside0.mk (Kd.R_below (rP HO213.out) hb)
      have n1_ := Aside0.mk (Kd.S_below (sP HO216.out) hb)
      have n2_ := Aside0.mk (Kd.R_below (rP HO221.out) hb)
      have n3_ := Aside0.mk (Kd.S_below (sP HO225.out) hb)
      have n4_ := Aside0.mk (Kd.R_below (rP HO230.out) hb)
      have n5_ := Aside0.mk (blkB BK207.out hb)
      have n6_ := Aside0.mk (blkB BK222.out hb)
      have n7_ := Aside0.mk (below_step (bW) hb)
      clear HO213
      clear HO216
      clear HO221
      clear HO225
      clear HO230
      clear BK207
      clear BK222
      clear HB
      have HO213 := n0_
      have HO216 := n1_
      have HO221 := n2_
      have HO225 := n3_
      have HO230 := n4_
      have BK207 := n5_
      have BK222 := n6_
      have HB := n7_
      clear n0_ n1_ n2_ n3_ n4_ n5_ n6_ n7_
      (try clear hb)
      (try clear hb2)
      (try clear hk)
      (try clear hi)
      refine hK.out _ _ ⟨(blk_cell BK222.out 0).trans rfl, (blk_cell BK222.out 1).trans rfl, (blk_cell BK207.out 0).trans rfl, (blk_cell BK207.out 1).trans rfl⟩ (fun hHeld => ?_)
      clear hK K
      refine norm_ (a' := ?_) ?_ ?_
      rotate_left
      ·show Act.put _ (some 38) _ = _
       simp only [Act.put, List.setIfInBounds_toArray, List.set_cons_zero, List.set_cons_succ, i64_w, i32_w]
       rfl
      refine pureS (i := 4) (N := some 39) (by kernel_rfl) ?_
      refine done_ (by kernel_rfl) ?_
      try go_wp2_with (first | ((with_reducible refine gate_callee (f := 16) rfl ?_); refine goesS (some 42) Tryd.func16 #[.slice A1 l1.length c1] ?_; (with_reducible refine (laws_toInt64SS.calls k _ _ l1 t232 _ ?side1 ?side2 A23.out).mono ?_); (case side1 => exact cP (Kd.C_below HR1.out HB.out)); (case side2 => exact HC1.out); rintro e w49 ⟨v233, rfl, ho0, hb⟩; refine ⟨_, rfl, ?_⟩; have n0_ := Aside0.mk (Kd.R_below (rP HO213.out) hb); have n1_ := Aside0.mk (Kd.S_elder' (sP HO216.out) (Kd.S_base ho0) hb); have n2_ := Aside0.mk (Kd.R_below (rP HO221.out) hb); have n3_ := Aside0.mk (Kd.S_elder' (sP HO225.out) (Kd.S_base ho0) hb); have n4_ := Aside0.mk (Kd.R_below (rP HO230.out) hb); have n5_ := Aside0.mk (Kd.S_lower (Kd.S_new' (Kd.S_new' (Kd.S_new' (Kd.S_new' (Kd.S_new' ho0 (Kd.R_lt (rP HO213.out))) (Kd.S_lt (sP HO216.out))) (Kd.R_lt (rP HO221.out))) (Kd.S_lt (sP HO225.out))) (Kd.R_lt (rP HO230.out))) (below_size (bW))); have n6_ := Aside0.mk (blkB BK207.out hb); have n7_ := Aside0.mk (blkB BK222.out hb); have n8_ := Aside0.mk (below_step (bW) hb); clear HO213; clear HO216; clear HO221; clear HO225; clear HO230; clear BK207; clear BK222; clear HB; have HO213 := n0_; have HO216 := n1_; have HO221 := n2_; have HO225 := n3_; have HO230 := n4_; have HO234 := n5_; have BK207 := n6_; have BK222 := n7_; have HB := n8_; clear n0_ n1_ n2_ n3_ n4_ n5_ n6_ n7_ n8_; (try clear hb); (try clear hb2); (try clear hk); (try clear hi); (try clear ho0); obtain ⟨Ao50, co50, eo50⟩ := Kd.S_slice HO234.out; subst eo50) | ((with_reducible refine gate_callee (f := 19) rfl ?_); refine goesS (some 43) Tryd.func19 #[.slice Ao43 t223.length co43, .slice Ao50 t232.length co50] ?_; (with_reducible refine (laws_eqInt64SS.calls k _ _ t223 _ _ t232 true _ ?side1 ?side2 ?side3 ?side4 A24.out).mono ?_); (case side1 => exact cP ((Kd.S_reads' HO225.out).2.2)); (case side2 => exact (Kd.S_reads' HO225.out).2.1); (case side3 => exact cP ((Kd.S_reads' HO234.out).2.2)); (case side4 => exact (Kd.S_reads' HO234.out).2.1); rintro e w' ⟨rfl, ⟨nd, rfl⟩⟩; refine ⟨_, rfl, ?_⟩))
      go_ret
      exact ⟨eW, bW⟩
     ·replace c25 := Bool.eq_false_iff.mpr c25
      subst c25
      have H1 : (some false) = some r := by rw [if_neg (show ¬ (false = true) by decide)] at H; exact H
      clear H
      have H := H1
      clear H1
      exact absurd (Option.some.inj H) (by rw [HT_.out]; decide)
    ·replace c22 := Bool.eq_false_iff.mpr c22
     subst c22
     have H1 : (some false) = some r := by rw [if_neg (show ¬ (false = true) by decide)] at H; exact H
     clear H
     have H := H1
     clear H1
     exact absurd (Option.some.inj H) (by rw [HT_.out]; decide)

/-! ### laws_szTermS: function 20 -/
def laws_szTermS.f (l0 : List (S92)) (a1 : Int) : Option (Int) := if (wrap64 (a1 - (l0.length : Int))) < 0 then (some (-1)) else (some (wrap64 (a1 - (l0.length : Int))))
set_option maxHeartbeats 8000000 in
set_option maxRecDepth 100000 in
theorem laws_szTermS.calls (A0 : Option Addr) (c0 : Nat) (l0 : List (S92)) (a1 : Int) (r : Int) (w : World) (hr0 : Kd.C k92 w A0 l0.length l0) (hc0 : l0.length ≤ c0) (h : laws_szTermS.f l0 a1 = some r) :
  Calls Tryd.prog 20 #[.slice A0 l0.length c0, .int .i64 a1] w fun e w' => e = .returned (.int .i64 r) ∧ Drawn0 w w' := by
 have HR0 := Aside0.mk hr0
 have HC0 := Aside0.mk hc0
 clear hr0 hc0
 have H : (if (wrap64 (a1 - (l0.length : Int))) < 0 then (some (-1)) else (some (wrap64 (a1 - (l0.length : Int))))) = some r := h
 clear h
 by_cases c3 : (wrap64 (a1 - (l0.length : Int))) < 0
 ·rw [if_pos c3] at H
  have c3b0 : decide ((wrap64 (a1 - (l0.length : Int))) < 0) = true := decide_eq_true c3
  clear c3
  obtain rfl := Option.some.inj H
  go_enter Tryd.func20, Tryd.ntmps20
  go_wp2
  go_ret
  exact ⟨eW, by repeat (first | exact Drawn0.refl _ | apply Drawn0.step)⟩
 ·rw [if_neg c3] at H
  have c3b0 : decide ((wrap64 (a1 - (l0.length : Int))) < 0) = false := decide_eq_false c3
  clear c3
  obtain rfl := Option.some.inj H
  go_enter Tryd.func20, Tryd.ntmps20
  go_wp2
  go_ret
  exact ⟨eW, by repeat (first | exact Drawn0.refl _ | apply Drawn0.step)⟩

/-! ### spec_l13End: function 113 -/
mutual
def spec_l13End.j0 : Nat → List (S84) → Int → Bool → Option (Int)
 | 0, _, _, _ => none
 | k + 1, x0, x1, x12 => if x12 = true then (some (-1)) else (if 0 ≤ x1 then (if x1 < (x0.length : Int) then (if ((rd_T84 x0 x1).f0) = 3 then (spec_l13End.j1 k x0 x1 ((rd_T84 x0 x1).f0) (((rd_T84 x0 x1).f0) == 3)) else (spec_l13End.j1 k x0 x1 ((rd_T84 x0 x1).f0) (((rd_T84 x0 x1).f0) == 4))) else (none)) else (none))
def spec_l13End.j1 : Nat → List (S84) → Int → Int → Bool → Option (Int)
 | 0, _, _, _, _ => none
 | k + 1, x0, x1, x17, x18 => if x18 = true then ((spec_l13End.f k x0 (wrap64 (x1 + 1))).bind fun t237 => ((spec_l13End.f k x0 t237).bind fun t238 => (some t238))) else (if x17 = 5 then ((spec_l13End.f k x0 (wrap64 (x1 + 1))).bind fun t239 => (some t239)) else (some (wrap64 (x1 + 1))))
def spec_l13End.f : Nat → List (S84) → Int → Option (Int)
 | 0, _, _ => none
 | k + 1, l0, a1 => if a1 < 0 then (spec_l13End.j0 k l0 a1 true) else (spec_l13End.j0 k l0 a1 (decide (a1 ≥ (l0.length : Int))))
end
theorem spec_l13End.mono_l : ∀ k, (∀ y0 y1, LeO (spec_l13End.f k y0 y1) (spec_l13End.f (k + 1) y0 y1)) ∧ (∀ y0 y1 y2, LeO (spec_l13End.j0 k y0 y1 y2) (spec_l13End.j0 (k + 1) y0 y1 y2)) ∧ (∀ y0 y1 y2 y3, LeO (spec_l13End.j1 k y0 y1 y2 y3) (spec_l13End.j1 (k + 1) y0 y1 y2 y3))
 | 0 => ⟨fun _ _ r h => by simp [spec_l13End.f] at h, fun _ _ _ r h => by simp [spec_l13End.j0] at h, fun _ _ _ _ r h => by simp [spec_l13End.j1] at h⟩
 | k + 1 => by
  obtain ⟨ih0, ih1, ih2⟩ := spec_l13End.mono_l k
  refine ⟨?_, ?_, ?_⟩
  ·intro y0 y1
   unfold spec_l13End.f
   repeat' first
   | (with_reducible exact ih0 _ _)
   | (with_reducible exact ih1 _ _ _)
   | (with_reducible exact ih2 _ _ _ _)
   | (with_reducible exact LeO.refl _)
   | (with_reducible exact LeO.none _)
   | (with_reducible refine LeO.ite ?_ ?_)
   | (with_reducible refine LeO.bind ?_ (fun _ => ?_))
   | exact ih0 _ _
   | exact ih1 _ _ _
   | exact ih2 _ _ _ _
   | exact LeO.none _
   | refine LeO.ite ?_ ?_
   | refine LeO.bind ?_ (fun _ => ?_)
  ·intro y0 y1 y2
   unfold spec_l13End.j0
   repeat' first
   | (with_reducible exact ih0 _ _)
   | (with_reducible exact ih1 _ _ _)
   | (with_reducible exact ih2 _ _ _ _)
   | (with_reducible exact LeO.refl _)
   | (with_reducible exact LeO.none _)
   | (with_reducible refine LeO.ite ?_ ?_)
   | (with_reducible refine LeO.bind ?_ (fun _ => ?_))
   | exact ih0 _ _
   | exact ih1 _ _ _
   | exact ih2 _ _ _ _
   | exact LeO.none _
   | refine LeO.ite ?_ ?_
   | refine LeO.bind ?_ (fun _ => ?_)
  ·intro y0 y1 y2 y3
   unfold spec_l13End.j1
   repeat' first
   | (with_reducible exact ih0 _ _)
   | (with_reducible exact ih1 _ _ _)
   | (with_reducible exact ih2 _ _ _ _)
   | (with_reducible exact LeO.refl _)
   | (with_reducible exact LeO.none _)
   | (with_reducible refine LeO.ite ?_ ?_)
   | (with_reducible refine LeO.bind ?_ (fun _ => ?_))
   | exact ih0 _ _
   | exact ih1 _ _ _
   | exact ih2 _ _ _ _
   | exact LeO.none _
   | refine LeO.ite ?_ ?_
   | refine LeO.bind ?_ (fun _ => ?_)
theorem spec_l13End.mono : ∀ a0 a1 k, LeO (spec_l13End.f k a0 a1) (spec_l13End.f (k + 1) a0 a1) := by
 intro a0 a1 k
 obtain ⟨ih0, ih1, ih2⟩ := spec_l13End.mono_l k
 exact ih0 a0 a1
set_option maxHeartbeats 8000000 in
set_option maxRecDepth 100000 in
theorem spec_l13End.calls (k : Nat) : ∀ (A0 : Option Addr) (c0 : Nat) (l0 : List (S84)) (a1 : Int) (r : Int) (w : World) (hr0 : Kd.C k84 w A0 l0.length l0) (hc0 : l0.length ≤ c0) (h : spec_l13End.f k l0 a1 = some r),
  Calls Tryd.prog 113 #[.slice A0 l0.length c0, .int .i64 a1] w fun e w' => e = .returned (.int .i64 r) ∧ Drawn0 w w' := by
 induction k using Nat.strongRecOn with
 | _ k ih =>
 intro A0 c0 l0 a1 r w hr0 hc0 h
 cases k with
 | zero => exact absurd h (by simp [spec_l13End.f])
 | succ k =>
 simp only [spec_l13End.f] at h
 have HR0 := Aside0.mk hr0
 have HC0 := Aside0.mk hc0
 clear hr0 hc0
 have H : (if a1 < 0 then (spec_l13End.j0 k l0 a1 true) else (spec_l13End.j0 k l0 a1 (decide (a1 ≥ (l0.length : Int))))) = some r := h
 clear h
 have HC3 := Aside0.mk H
 clear H
 go_enter Tryd.func113, Tryd.ntmps113
 go_upto_region 1 with (fail)
 go_cut [12] (fun v12 wc => ∃ (kq : Nat) (x12_2 : Bool), v12 = .bool x12_2 ∧ Aside0 (spec_l13End.j0 kq l0 a1 x12_2 = some r) ∧ Aside0 (kq ≤ k) ∧ Drawn0 w wc)
 case first =>
  have H := HC3.out
  clear HC3
  by_cases c4 : a1 < 0
  ·rw [if_pos c4] at H
   have c4b0 : decide (a1 < 0) = true := decide_eq_true c4
   clear c4
   (first | rw [c4b0] | (simp only [i64_w, i32_w]; rw [c4b0]) | skip)
   have H' := Aside0.mk H
   clear H
   go_wp2
   go_meet
   case rel => exact ⟨_, (true), (eW), H', ⟨by first | omega | exact Nat.le_refl _⟩, by repeat (first | exact Drawn0.refl _ | apply Drawn0.step)⟩
  ·rw [if_neg c4] at H
   have c4b0 : decide (a1 < 0) = false := decide_eq_false c4
   clear c4
   (first | rw [c4b0] | (simp only [i64_w, i32_w]; rw [c4b0]) | skip)
   have H' := Aside0.mk H
   clear H
   go_wp2
   go_meet
   case rel => exact ⟨_, (decide (a1 ≥ (l0.length : Int))), (eW), H', ⟨by first | omega | exact Nat.le_refl _⟩, by repeat (first | exact Drawn0.refl _ | apply Drawn0.step)⟩
 case rest =>
  clear HC3
  try clear c1
  try clear p2
  try clear c4
  try clear c4b0
  obtain ⟨kq, x12_2, rfl, HA, HJ2, ⟨mc2, rfl⟩⟩ := hcut
  cases kq with
  | zero => exact absurd HA.out (by simp [spec_l13End.j0])
  | succ kj2 =>
   have H := HA.out
   clear HA
   simp only [spec_l13End.j0] at H
   by_cases c5 : x12_2 = true
   ·subst c5
    have H1 : (some (-1)) = some r := by rw [if_pos rfl] at H; exact H
    clear H
    have H := H1
    clear H1
    obtain rfl := Option.some.inj H
    go_wp2
    go_ret
    exact ⟨eW, by repeat (first | exact Drawn0.refl _ | apply Drawn0.step)⟩
   ·replace c5 := Bool.eq_false_iff.mpr c5
    subst c5
    have H1 : (if 0 ≤ a1 then (if a1 < (l0.length : Int) then (if ((rd_T84 l0 a1).f0) = 3 then (spec_l13End.j1 kj2 l0 a1 ((rd_T84 l0 a1).f0) (((rd_T84 l0 a1).f0) == 3)) else (spec_l13End.j1 kj2 l0 a1 ((rd_T84 l0 a1).f0) (((rd_T84 l0 a1).f0) == 4))) else (none)) else (none)) = some r := by rw [if_neg (show ¬ (false = true) by decide)] at H; exact H
    clear H
    have H := H1
    clear H1
    by_cases c6 : 0 ≤ a1
    ·rw [if_pos c6] at H
     have c6b0 : decide (0 ≤ a1) = true := decide_eq_true c6
     clear c6
     by_cases c7 : a1 < (l0.length : Int)
     ·rw [if_pos c7] at H
      have c7b0 : decide (a1 < (l0.length : Int)) = true := decide_eq_true c7
      clear c7
      have HC8 := Aside0.mk H
      clear H
      have p236 : 0 ≤ (a1 : Int) := ofD
      have q236 : a1 < (l0.length : Int) := ofD
      obtain ⟨ad236, e236, hx236_0, hx236_1⟩ := at_T84 HR0.out a1 p236 q236
      cases e236
      replace p236 := eq_true p236
      replace q236 := eq_true q236
      go_upto_if 18 with (fail)
      go_cut [18] (fun v18 wc => ∃ (kq : Nat) (x18_7 : Bool), v18 = .bool x18_7 ∧ Aside0 (spec_l13End.j1 kq l0 a1 ((rd_T84 l0 a1).f0) x18_7 = some r) ∧ Aside0 (kq ≤ kj2) ∧ Drawn0 w wc)
      case first =>
       have H := HC8.out
       clear HC8
       by_cases c9 : ((rd_T84 l0 a1).f0) = 3
       ·rw [if_pos c9] at H
        have c9b0 : (((rd_T84 l0 a1).f0) == 3) = true := beq_iff_eq.mpr c9
        have c9b1 : (((rd_T84 l0 a1).f0) != 3) = false := bne_eq_false_iff_eq.mpr c9
        clear c9
        (first | rw [c9b0] | (simp only [i64_w, i32_w]; rw [c9b0]) | skip)
        have H' := Aside0.mk H
        clear H
        go_wp2
        go_meet
        case rel => exact ⟨_, ((((rd_T84 l0 a1).f0) == 3)), (eW), H', ⟨by have := HJ2.out; first | omega | exact Nat.le_refl _⟩, by repeat (first | exact Drawn0.refl _ | apply Drawn0.step)⟩
       ·rw [if_neg c9] at H
        have c9b0 : (((rd_T84 l0 a1).f0) == 3) = false := beq_eq_false_iff_ne.mpr c9
        have c9b1 : (((rd_T84 l0 a1).f0) != 3) = true := bne_iff_ne.mpr c9
        (first | rw [c9b0] | (simp only [i64_w, i32_w]; rw [c9b0]) | skip)
        have H' := Aside0.mk H
        clear H
        go_wp2
        go_meet
        case rel => exact ⟨_, ((((rd_T84 l0 a1).f0) == 4)), (eW), H', ⟨by have := HJ2.out; first | omega | exact Nat.le_refl _⟩, by repeat (first | exact Drawn0.refl _ | apply Drawn0.step)⟩
      case rest =>
       clear HC8
       try clear c1
       try clear c2
       try clear p2
       try clear q2
       try clear hx2
       try clear c4
       try clear c4b0
       try clear c5
       try clear c6
       try clear c6b0
       try clear c7
       try clear c7b0
       try clear c9
       try clear c9b0
       try clear c9b1
       try clear hx236_0
       try clear hx236_1
       try clear p2
       try clear p236
       try clear q236
       obtain ⟨kq, x18_7, rfl, HA, HJ7, ⟨mc7, rfl⟩⟩ := hcut
       cases kq with
       | zero => exact absurd HA.out (by simp [spec_l13End.j1])
       | succ kj7 =>
        have H := HA.out
        clear HA
        simp only [spec_l13End.j1] at H
        by_cases c10 : x18_7 = true
        ·subst c10
         have H1 : ((spec_l13End.f kj7 l0 (wrap64 (a1 + 1))).bind fun t237 => ((spec_l13End.f kj7 l0 t237).bind fun t238 => (some t238))) = some r := by rw [if_pos rfl] at H; exact H
         clear H
         have H := H1
         clear H1
         replace H := Option.bind_eq_some_iff.mp H
         obtain ⟨t237, A110, H⟩ := H
         replace H : ((spec_l13End.f kj7 l0 t237).bind fun t238 => (some t238)) = some r := H
         have A11 := Aside0.mk A110
         clear A110
         replace H := Option.bind_eq_some_iff.mp H
         obtain ⟨t238, A120, H⟩ := H
         replace H : (some t238) = some r := H
         have A12 := Aside0.mk A120
         clear A120
         obtain rfl := Option.some.inj H
         go_wp2_with (first | ((with_reducible refine gate_callee (f := 113) rfl ?_); refine goesS (some 25) Tryd.func113 #[.slice (some ad236) l0.length c0, .int .i64 (wrap64 (a1 + 1))] ?_; (with_reducible refine (ih kj7 (by have := HJ2.out; have := HJ7.out; omega) _ _ l0 (wrap64 (a1 + 1)) t237 _ ?side1 ?side2 A11.out).mono ?_); (case side1 => exact cP HR0.out); (case side2 => exact HC0.out); rintro e w' ⟨rfl, ⟨nd, rfl⟩⟩; refine ⟨_, rfl, ?_⟩) | ((with_reducible refine gate_callee (f := 113) rfl ?_); refine goesS (some 26) Tryd.func113 #[.slice (some ad236) l0.length c0, .int .i64 t237] ?_; (with_reducible refine (ih kj7 (by have := HJ2.out; have := HJ7.out; omega) _ _ l0 t237 t238 _ ?side1 ?side2 A12.out).mono ?_); (case side1 => exact cP HR0.out); (case side2 => exact HC0.out); rintro e w' ⟨rfl, ⟨nd, rfl⟩⟩; refine ⟨_, rfl, ?_⟩))
         go_ret
         exact ⟨eW, by repeat (first | exact Drawn0.refl _ | apply Drawn0.step)⟩
        ·replace c10 := Bool.eq_false_iff.mpr c10
         subst c10
         have H1 : (if ((rd_T84 l0 a1).f0) = 5 then ((spec_l13End.f kj7 l0 (wrap64 (a1 + 1))).bind fun t239 => (some t239)) else (some (wrap64 (a1 + 1)))) = some r := by rw [if_neg (show ¬ (false = true) by decide)] at H; exact H
         clear H
         have H := H1
         clear H1
         by_cases c13 : ((rd_T84 l0 a1).f0) = 5
         ·rw [if_pos c13] at H
          have c13b0 : (((rd_T84 l0 a1).f0) == 5) = true := beq_iff_eq.mpr c13
          have c13b1 : (((rd_T84 l0 a1).f0) != 5) = false := bne_eq_false_iff_eq.mpr c13
          clear c13
          replace H := Option.bind_eq_some_iff.mp H
          obtain ⟨t239, A140, H⟩ := H
          replace H : (some t239) = some r := H
          have A14 := Aside0.mk A140
          clear A140
          obtain rfl := Option.some.inj H
          go_wp2_with (first | ((with_reducible refine gate_callee (f := 113) rfl ?_); refine goesS (some 32) Tryd.func113 #[.slice (some ad236) l0.length c0, .int .i64 (wrap64 (a1 + 1))] ?_; (with_reducible refine (ih kj7 (by have := HJ2.out; have := HJ7.out; omega) _ _ l0 (wrap64 (a1 + 1)) t239 _ ?side1 ?side2 A14.out).mono ?_); (case side1 => exact cP HR0.out); (case side2 => exact HC0.out); rintro e w' ⟨rfl, ⟨nd, rfl⟩⟩; refine ⟨_, rfl, ?_⟩))
          go_ret
          exact ⟨eW, by repeat (first | exact Drawn0.refl _ | apply Drawn0.step)⟩
         ·rw [if_neg c13] at H
          have c13b0 : (((rd_T84 l0 a1).f0) == 5) = false := beq_eq_false_iff_ne.mpr c13
          have c13b1 : (((rd_T84 l0 a1).f0) != 5) = true := bne_iff_ne.mpr c13
          obtain rfl := Option.some.inj H
          go_wp2
          go_ret
          exact ⟨eW, by repeat (first | exact Drawn0.refl _ | apply Drawn0.step)⟩
     ·rw [if_neg c7] at H
      exact absurd H (by simp)
    ·rw [if_neg c6] at H
     exact absurd H (by simp)

end Go.Proofs.YthbaocejgjpfoaaDoor.P
end M0
