import Derived.ArgAppend
import Derived.Below
import Derived.BigQuiet
import Derived.ChangeShapes
import Derived.Deep.AppendLies
import Derived.Deep.CutBlock
import Derived.Deep.DeepCutAuto
import Derived.Deep.Draws
import Derived.Deep.LoopGhost
import Derived.Deep.OwnRows
import Derived.Deep.QuietTactic
import Derived.Deep.RegionHeld3
import Derived.Deep.Slices
import Derived.KernelRfl
import Derived.Laws.BitsLemmas
import Derived.Laws.BytesArg
import Derived.Laws.IdiomCopy
import Derived.Laws.MakeOwn
import Derived.Laws.OwnMore
import Derived.Laws.Rows
import Derived.Laws.Slices
import Derived.Laws.StructEq
import Derived.Lib.AppendStr
import Derived.Lib.ConvBytes
import Derived.Lib.SliceRun
import Derived.Lib.SmallJoins
import Derived.Maps.AppendAt
import Derived.OrdersHeld
import Derived.OwnWalk
import Derived.RowKit
import Derived.RowKit3
import Derived.Shelf.Abstract
import Derived.Shelf.Spec.TrailingZeros
import Derived.Tactics
import Derived.Test.YthbaocejgjpfoaaDoorProg
import Derived.WalkKit
import Derived.WideLaws
import Derived.Test.YthbaocejgjpfoaaDoorCFnExactParseExpression0
import Derived.Test.YthbaocejgjpfoaaDoorCFnExactParseExpression1
import Derived.Test.YthbaocejgjpfoaaDoorCFnExactParseExpression2
import Derived.Test.YthbaocejgjpfoaaDoorCFnExactParseExpression3
import Derived.Test.YthbaocejgjpfoaaDoorCFnExactParseExpression4
import Derived.Test.YthbaocejgjpfoaaDoorCFnExactParseExpression5
import Derived.Test.YthbaocejgjpfoaaDoorCFnExactParseExpression6
section M0
namespace Go.Proofs.YthbaocejgjpfoaaDoor.P
open Go.RowKit Go.Proofs.YthbaocejgjpfoaaDoor.Sh Go.Proofs.YthbaocejgjpfoaaDoorW.PrintWords Go.Proofs.YthbaocejgjpfoaaDoorW.PrintLast Go.Proofs.YthbaocejgjpfoaaDoorW.PrintMore
attribute [local go_sem] max2_int min2_int max_two min_two max_three min_three max_four min_four   -- for this text's walks alone
set_option linter.unusedVariables false
set_option linter.unusedSimpArgs false

/-! ### impl_ParseExpression: function 43 -/
def impl_ParseExpression.f (k : Nat) (a0_0 : Int) (l0_1 : List Int) (a1 : ByteArray) : Option ((List (S84)) × Int) := (impl_IsAlphabet.f k a0_0 l0_1).bind fun t886 => (if t886 = true then (if (a1.size : Int) > 96 then (some (([] : List (S84)), 6)) else ((impl_readExpression.f k a1).bind fun bt887 => (if bt887.2.2 = true then (if bt887.2.1.toList = ([] : List UInt8) then ((impl_IsExpression.f k a0_0 l0_1 bt887.1).bind fun t892 => (if t892 = true then (some (bt887.1, 0)) else (some (([] : List (S84)), 6)))) else (some (([] : List (S84)), 6))) else (some (([] : List (S84)), 6))))) else (some (([] : List (S84)), 1)))
set_option maxHeartbeats 8000000 in
set_option maxRecDepth 100000 in
theorem impl_ParseExpression.calls (k : Nat) (a0_0 : Int) (A0_1 : Option Addr) (c0_1 : Nat) (l0_1 : List Int) (a1 : ByteArray) (r1 : List (S84)) (r2 : Int) (w : World) (hr0_1 : Kd.C (Kd.int .i64) w A0_1 l0_1.length l0_1) (hc0_1 : l0_1.length ≤ c0_1) (h : impl_ParseExpression.f k a0_0 l0_1 a1 = some (r1, r2)) (hTab : Tab w) :
  Calls Tryd.prog 43 #[.agg #[.int .i64 a0_0, .slice A0_1 l0_1.length c0_1], .string a1] w fun e w' => ∃ v0_ : Value, e = .returned (.tuple #[v0_, .int .i64 r2]) ∧ Kd.R k84 84 w' w.heap.size (fun _ => True) v0_ r1 ∧ Below w.heap.size w w' := by
 have HTab := Aside0.mk hTab
 clear hTab
 have hu29 := Tryd.underlying29
 have HR0_1 := Aside0.mk hr0_1
 have HC0_1 := Aside0.mk hc0_1
 clear hr0_1 hc0_1
 have HB := Aside0.mk (Below.refl w.heap.size w)
 have H : ((impl_IsAlphabet.f k a0_0 l0_1).bind fun t886 => (if t886 = true then (if (a1.size : Int) > 96 then (some (([] : List (S84)), 6)) else ((impl_readExpression.f k a1).bind fun bt887 => (if bt887.2.2 = true then (if bt887.2.1.toList = ([] : List UInt8) then ((impl_IsExpression.f k a0_0 l0_1 bt887.1).bind fun t892 => (if t892 = true then (some (bt887.1, 0)) else (some (([] : List (S84)), 6)))) else (some (([] : List (S84)), 6))) else (some (([] : List (S84)), 6))))) else (some (([] : List (S84)), 1)))) = some (r1, r2) := h
 clear h
 replace H := Option.bind_eq_some_iff.mp H
 obtain ⟨t886, A30, H⟩ := H
 replace H : (if t886 = true then (if (a1.size : Int) > 96 then (some (([] : List (S84)), 6)) else ((impl_readExpression.f k a1).bind fun bt887 => (if bt887.2.2 = true then (if bt887.2.1.toList = ([] : List UInt8) then ((impl_IsExpression.f k a0_0 l0_1 bt887.1).bind fun t892 => (if t892 = true then (some (bt887.1, 0)) else (some (([] : List (S84)), 6)))) else (some (([] : List (S84)), 6))) else (some (([] : List (S84)), 6))))) else (some (([] : List (S84)), 1))) = some (r1, r2) := H
 have A3 := Aside0.mk A30
 clear A30
 by_cases c4 : t886 = true
 ·subst c4
  have H1 : (if (a1.size : Int) > 96 then (some (([] : List (S84)), 6)) else ((impl_readExpression.f k a1).bind fun bt887 => (if bt887.2.2 = true then (if bt887.2.1.toList = ([] : List UInt8) then ((impl_IsExpression.f k a0_0 l0_1 bt887.1).bind fun t892 => (if t892 = true then (some (bt887.1, 0)) else (some (([] : List (S84)), 6)))) else (some (([] : List (S84)), 6))) else (some (([] : List (S84)), 6))))) = some (r1, r2) := by rw [if_pos rfl] at H; exact H
  clear H
  have H := H1
  clear H1
  by_cases c5 : (a1.size : Int) > 96
  ·rw [if_pos c5] at H
   have c5b0 : decide (96 < (a1.size : Int)) = true := decide_eq_true c5
   have c5b1 : decide (96 < a1.size) = true := decide_eq_true (by omega)
   clear c5
   simp only [Option.some.injEq, Prod.mk.injEq] at H
   obtain ⟨rfl, rfl⟩ := H
   go_enter Tryd.func43, Tryd.ntmps43
   go_wp2_with (first | ((with_reducible refine gate_dst (N := 2) rfl ?_); refine boxS (N := 2) (cs := #[.int .i64 a0_0, .slice A0_1 l0_1.length c0_1]) (t := 29) ?_; intro gb885 hg w6 hbox hb; have n0_ := Aside0.mk (below_step (bW) hb); have n1_ := Aside0.mk (hbox); have n2_ := geW (w := w) hg; have n3_ := geW (w := w) hg; clear HB; have HB := n0_; have BK885 := n1_; have GW885 := n2_; have GE885 := n3_; clear n0_ n1_ n2_ n3_; clear hb hbox hg; obtain ⟨hcz7_0, hcz7_1⟩ := cells2 BK885.out; obtain ⟨hfz7_0, hfz7_1⟩ := frz2 BK885.out) | ((with_reducible refine gate_callee (f := 58) rfl ?_); refine goesS (some 10) Tryd.func58 #[.agg #[.int .i64 a0_0, .slice A0_1 l0_1.length c0_1]] ?_; (with_reducible refine (impl_IsAlphabet.calls k a0_0 _ _ l0_1 true _ ?side1 ?side2 A3.out (tabW HTab.out)).mono ?_); (case side1 => exact cP (Kd.C_below HR0_1.out HB.out)); (case side2 => exact HC0_1.out); rintro e w8 ⟨rfl, hb⟩; refine ⟨_, rfl, ?_⟩; have n0_ := Aside0.mk (blkB BK885.out hb); have n1_ := Aside0.mk (below_step (bW) hb); clear BK885; clear HB; have BK885 := n0_; have HB := n1_; clear n0_ n1_; (try clear hb); (try clear hb2); (try clear hk); (try clear hi)))
   go_ret2
   exact ⟨_, eW, by first | exact Kd.R_nil _ _ _ _ _ | exact Kd.N_nil _ _ _ _ _ | exact Kd.V_nil _ _ _ _ _ | exact Kd.Q_nil _ _ _ _ _ | exact Kd.S_nil _ _ _ _ _, bW⟩
  ·rw [if_neg c5] at H
   have c5b0 : decide (96 < (a1.size : Int)) = false := decide_eq_false c5
   have c5b1 : decide (96 < a1.size) = false := decide_eq_false (by omega)
   clear c5
   replace H := Option.bind_eq_some_iff.mp H
   obtain ⟨⟨t887, t888, t889⟩, A90, H⟩ := H
   replace H : (if t889 = true then (if t888.toList = ([] : List UInt8) then ((impl_IsExpression.f k a0_0 l0_1 t887).bind fun t892 => (if t892 = true then (some (t887, 0)) else (some (([] : List (S84)), 6)))) else (some (([] : List (S84)), 6))) else (some (([] : List (S84)), 6))) = some (r1, r2) := H
   have A9 := Aside0.mk A90
   clear A90
   by_cases c10 : t889 = true
   ·subst c10
    have H1 : (if t888.toList = ([] : List UInt8) then ((impl_IsExpression.f k a0_0 l0_1 t887).bind fun t892 => (if t892 = true then (some (t887, 0)) else (some (([] : List (S84)), 6)))) else (some (([] : List (S84)), 6))) = some (r1, r2) := by rw [if_pos rfl] at H; exact H
    clear H
    have H := H1
    clear H1
    by_cases c11 : t888.toList = ([] : List UInt8)
    ·rw [if_pos c11] at H
     have c11b0 : (t888.toList == ([] : List UInt8)) = true := beq_iff_eq.mpr c11
     have c11b1 : (t888.toList != ([] : List UInt8)) = false := bne_eq_false_iff_eq.mpr c11
     clear c11
     replace H := Option.bind_eq_some_iff.mp H
     obtain ⟨t892, A120, H⟩ := H
     replace H : (if t892 = true then (some (t887, 0)) else (some (([] : List (S84)), 6))) = some (r1, r2) := H
     have A12 := Aside0.mk A120
     clear A120
     by_cases c13 : t892 = true
     ·subst c13
      have H1 : (some (t887, 0)) = some (r1, r2) := by rw [if_pos rfl] at H; exact H
      clear H
      have H := H1
      clear H1
      simp only [Option.some.injEq, Prod.mk.injEq] at H
      obtain ⟨rfl, rfl⟩ := H
      go_enter Tryd.func43, Tryd.ntmps43
      go_wp2_with (first | ((with_reducible refine gate_dst (N := 2) rfl ?_); refine boxS (N := 2) (cs := #[.int .i64 a0_0, .slice A0_1 l0_1.length c0_1]) (t := 29) ?_; intro gb885 hg w14 hbox hb; have n0_ := Aside0.mk (below_step (bW) hb); have n1_ := Aside0.mk (hbox); have n2_ := geW (w := w) hg; have n3_ := geW (w := w) hg; clear HB; have HB := n0_; have BK885 := n1_; have GW885 := n2_; have GE885 := n3_; clear n0_ n1_ n2_ n3_; clear hb hbox hg; obtain ⟨hcz15_0, hcz15_1⟩ := cells2 BK885.out; obtain ⟨hfz15_0, hfz15_1⟩ := frz2 BK885.out) | ((with_reducible refine gate_callee (f := 58) rfl ?_); refine goesS (some 10) Tryd.func58 #[.agg #[.int .i64 a0_0, .slice A0_1 l0_1.length c0_1]] ?_; (with_reducible refine (impl_IsAlphabet.calls k a0_0 _ _ l0_1 true _ ?side1 ?side2 A3.out (tabW HTab.out)).mono ?_); (case side1 => exact cP (Kd.C_below HR0_1.out HB.out)); (case side2 => exact HC0_1.out); rintro e w16 ⟨rfl, hb⟩; refine ⟨_, rfl, ?_⟩; have n0_ := Aside0.mk (blkB BK885.out hb); have n1_ := Aside0.mk (below_step (bW) hb); clear BK885; clear HB; have BK885 := n0_; have HB := n1_; clear n0_ n1_; (try clear hb); (try clear hb2); (try clear hk); (try clear hi)) | ((with_reducible refine gate_callee (f := 87) rfl ?_); refine goesS (some 17) Tryd.func87 #[.string a1] ?_; (with_reducible refine (impl_readExpression.calls k a1 t887 t888 true _ A9.out).mono ?_); rintro e w17 ⟨v890, rfl, ho0, hb⟩; refine ⟨_, rfl, ?_⟩; have n0_ := Aside0.mk (Kd.R_lower ho0 (below_size (bW))); have n1_ := Aside0.mk (blkB BK885.out hb); have n2_ := Aside0.mk (below_step (bW) hb); clear BK885; clear HB; have HO891 := n0_; have BK885 := n1_; have HB := n2_; clear n0_ n1_ n2_; (try clear hb); (try clear hb2); (try clear hk); (try clear hi); (try clear ho0); obtain ⟨hcz18_0, hcz18_1⟩ := cells2 BK885.out; obtain ⟨hfz18_0, hfz18_1⟩ := frz2 BK885.out; obtain ⟨Ao19, co19, eo19⟩ := Kd.R_slice HO891.out; subst eo19) | (go_at_call 51; (with_reducible refine (impl_IsExpression.calls k a0_0 _ _ l0_1 _ _ t887 true _ ?side1 ?side2 ?side3 ?side4 A12.out (tabW HTab.out)).mono ?_); (case side1 => exact cP (Kd.C_below HR0_1.out HB.out)); (case side2 => exact HC0_1.out); (case side3 => exact cP ((Kd.R_reads' HO891.out).2.2)); (case side4 => exact (Kd.R_reads' HO891.out).2.1); rintro e w20 ⟨rfl, hb⟩; have n0_ := Aside0.mk (Kd.R_below (rP HO891.out) hb); have n1_ := Aside0.mk (blkB BK885.out hb); have n2_ := Aside0.mk (below_step (bW) hb); clear HO891; clear BK885; clear HB; have HO891 := n0_; have BK885 := n1_; have HB := n2_; clear n0_ n1_ n2_; (try clear hb); (try clear hb2); (try clear hk); (try clear hi)))
      go_ret2
      exact ⟨_, eW, (rP HO891.out), bW⟩
     ·replace c13 := Bool.eq_false_iff.mpr c13
      subst c13
      have H1 : (some (([] : List (S84)), 6)) = some (r1, r2) := by rw [if_neg (show ¬ (false = true) by decide)] at H; exact H
      clear H
      have H := H1
      clear H1
      simp only [Option.some.injEq, Prod.mk.injEq] at H
      obtain ⟨rfl, rfl⟩ := H
      go_enter Tryd.func43, Tryd.ntmps43
      go_wp2_with (first | ((with_reducible refine gate_dst (N := 2) rfl ?_); refine boxS (N := 2) (cs := #[.int .i64 a0_0, .slice A0_1 l0_1.length c0_1]) (t := 29) ?_; intro gb885 hg w21 hbox hb; have n0_ := Aside0.mk (below_step (bW) hb); have n1_ := Aside0.mk (hbox); have n2_ := geW (w := w) hg; have n3_ := geW (w := w) hg; clear HB; have HB := n0_; have BK885 := n1_; have GW885 := n2_; have GE885 := n3_; clear n0_ n1_ n2_ n3_; clear hb hbox hg; obtain ⟨hcz22_0, hcz22_1⟩ := cells2 BK885.out; obtain ⟨hfz22_0, hfz22_1⟩ := frz2 BK885.out) | ((with_reducible refine gate_callee (f := 58) rfl ?_); refine goesS (some 10) Tryd.func58 #[.agg #[.int .i64 a0_0, .slice A0_1 l0_1.length c0_1]] ?_; (with_reducible refine (impl_IsAlphabet.calls k a0_0 _ _ l0_1 true _ ?side1 ?side2 A3.out (tabW HTab.out)).mono ?_); (case side1 => exact cP (Kd.C_below HR0_1.out HB.out)); (case side2 => exact HC0_1.out); rintro e w23 ⟨rfl, hb⟩; refine ⟨_, rfl, ?_⟩; have n0_ := Aside0.mk (blkB BK885.out hb); have n1_ := Aside0.mk (below_step (bW) hb); clear BK885; clear HB; have BK885 := n0_; have HB := n1_; clear n0_ n1_; (try clear hb); (try clear hb2); (try clear hk); (try clear hi)) | ((with_reducible refine gate_callee (f := 87) rfl ?_); refine goesS (some 17) Tryd.func87 #[.string a1] ?_; (with_reducible refine (impl_readExpression.calls k a1 t887 t888 true _ A9.out).mono ?_); rintro e w24 ⟨v890, rfl, ho0, hb⟩; refine ⟨_, rfl, ?_⟩; have n0_ := Aside0.mk (Kd.R_lower ho0 (below_size (bW))); have n1_ := Aside0.mk (blkB BK885.out hb); have n2_ := Aside0.mk (below_step (bW) hb); clear BK885; clear HB; have HO891 := n0_; have BK885 := n1_; have HB := n2_; clear n0_ n1_ n2_; (try clear hb); (try clear hb2); (try clear hk); (try clear hi); (try clear ho0); obtain ⟨hcz25_0, hcz25_1⟩ := cells2 BK885.out; obtain ⟨hfz25_0, hfz25_1⟩ := frz2 BK885.out; obtain ⟨Ao26, co26, eo26⟩ := Kd.R_slice HO891.out; subst eo26) | (go_at_call 51; (with_reducible refine (impl_IsExpression.calls k a0_0 _ _ l0_1 _ _ t887 false _ ?side1 ?side2 ?side3 ?side4 A12.out (tabW HTab.out)).mono ?_); (case side1 => exact cP (Kd.C_below HR0_1.out HB.out)); (case side2 => exact HC0_1.out); (case side3 => exact cP ((Kd.R_reads' HO891.out).2.2)); (case side4 => exact (Kd.R_reads' HO891.out).2.1); rintro e w27 ⟨rfl, hb⟩; have n0_ := Aside0.mk (Kd.R_below (rP HO891.out) hb); have n1_ := Aside0.mk (blkB BK885.out hb); have n2_ := Aside0.mk (below_step (bW) hb); clear HO891; clear BK885; clear HB; have HO891 := n0_; have BK885 := n1_; have HB := n2_; clear n0_ n1_ n2_; (try clear hb); (try clear hb2); (try clear hk); (try clear hi)))
      go_ret2
      exact ⟨_, eW, by first | exact Kd.R_nil _ _ _ _ _ | exact Kd.N_nil _ _ _ _ _ | exact Kd.V_nil _ _ _ _ _ | exact Kd.Q_nil _ _ _ _ _ | exact Kd.S_nil _ _ _ _ _, bW⟩
    ·rw [if_neg c11] at H
     have c11b0 : (t888.toList == ([] : List UInt8)) = false := beq_eq_false_iff_ne.mpr c11
     have c11b1 : (t888.toList != ([] : List UInt8)) = true := bne_iff_ne.mpr c11
     simp only [Option.some.injEq, Prod.mk.injEq] at H
     obtain ⟨rfl, rfl⟩ := H
     go_enter Tryd.func43, Tryd.ntmps43
     go_wp2_with (first | ((with_reducible refine gate_dst (N := 2) rfl ?_); refine boxS (N := 2) (cs := #[.int .i64 a0_0, .slice A0_1 l0_1.length c0_1]) (t := 29) ?_; intro gb885 hg w28 hbox hb; have n0_ := Aside0.mk (below_step (bW) hb); have n1_ := Aside0.mk (hbox); have n2_ := geW (w := w) hg; have n3_ := geW (w := w) hg; clear HB; have HB := n0_; have BK885 := n1_; have GW885 := n2_; have GE885 := n3_; clear n0_ n1_ n2_ n3_; clear hb hbox hg; obtain ⟨hcz29_0, hcz29_1⟩ := cells2 BK885.out; obtain ⟨hfz29_0, hfz29_1⟩ := frz2 BK885.out) | ((with_reducible refine gate_callee (f := 58) rfl ?_); refine goesS (some 10) Tryd.func58 #[.agg #[.int .i64 a0_0, .slice A0_1 l0_1.length c0_1]] ?_; (with_reducible refine (impl_IsAlphabet.calls k a0_0 _ _ l0_1 true _ ?side1 ?side2 A3.out (tabW HTab.out)).mono ?_); (case side1 => exact cP (Kd.C_below HR0_1.out HB.out)); (case side2 => exact HC0_1.out); rintro e w30 ⟨rfl, hb⟩; refine ⟨_, rfl, ?_⟩; have n0_ := Aside0.mk (blkB BK885.out hb); have n1_ := Aside0.mk (below_step (bW) hb); clear BK885; clear HB; have BK885 := n0_; have HB := n1_; clear n0_ n1_; (try clear hb); (try clear hb2); (try clear hk); (try clear hi)) | ((with_reducible refine gate_callee (f := 87) rfl ?_); refine goesS (some 17) Tryd.func87 #[.string a1] ?_; (with_reducible refine (impl_readExpression.calls k a1 t887 t888 true _ A9.out).mono ?_); rintro e w31 ⟨v890, rfl, ho0, hb⟩; refine ⟨_, rfl, ?_⟩; have n0_ := Aside0.mk (Kd.R_lower ho0 (below_size (bW))); have n1_ := Aside0.mk (blkB BK885.out hb); have n2_ := Aside0.mk (below_step (bW) hb); clear BK885; clear HB; have HO891 := n0_; have BK885 := n1_; have HB := n2_; clear n0_ n1_ n2_; (try clear hb); (try clear hb2); (try clear hk); (try clear hi); (try clear ho0)))
     go_ret2
     exact ⟨_, eW, by first | exact Kd.R_nil _ _ _ _ _ | exact Kd.N_nil _ _ _ _ _ | exact Kd.V_nil _ _ _ _ _ | exact Kd.Q_nil _ _ _ _ _ | exact Kd.S_nil _ _ _ _ _, bW⟩
   ·replace c10 := Bool.eq_false_iff.mpr c10
    subst c10
    have H1 : (some (([] : List (S84)), 6)) = some (r1, r2) := by rw [if_neg (show ¬ (false = true) by decide)] at H; exact H
    clear H
    have H := H1
    clear H1
    simp only [Option.some.injEq, Prod.mk.injEq] at H
    obtain ⟨rfl, rfl⟩ := H
    go_enter Tryd.func43, Tryd.ntmps43
    go_wp2_with (first | ((with_reducible refine gate_dst (N := 2) rfl ?_); refine boxS (N := 2) (cs := #[.int .i64 a0_0, .slice A0_1 l0_1.length c0_1]) (t := 29) ?_; intro gb885 hg w32 hbox hb; have n0_ := Aside0.mk (below_step (bW) hb); have n1_ := Aside0.mk (hbox); have n2_ := geW (w := w) hg; have n3_ := geW (w := w) hg; clear HB; have HB := n0_; have BK885 := n1_; have GW885 := n2_; have GE885 := n3_; clear n0_ n1_ n2_ n3_; clear hb hbox hg; obtain ⟨hcz33_0, hcz33_1⟩ := cells2 BK885.out; obtain ⟨hfz33_0, hfz33_1⟩ := frz2 BK885.out) | ((with_reducible refine gate_callee (f := 58) rfl ?_); refine goesS (some 10) Tryd.func58 #[.agg #[.int .i64 a0_0, .slice A0_1 l0_1.length c0_1]] ?_; (with_reducible refine (impl_IsAlphabet.calls k a0_0 _ _ l0_1 true _ ?side1 ?side2 A3.out (tabW HTab.out)).mono ?_); (case side1 => exact cP (Kd.C_below HR0_1.out HB.out)); (case side2 => exact HC0_1.out); rintro e w34 ⟨rfl, hb⟩; refine ⟨_, rfl, ?_⟩; have n0_ := Aside0.mk (blkB BK885.out hb); have n1_ := Aside0.mk (below_step (bW) hb); clear BK885; clear HB; have BK885 := n0_; have HB := n1_; clear n0_ n1_; (try clear hb); (try clear hb2); (try clear hk); (try clear hi)) | ((with_reducible refine gate_callee (f := 87) rfl ?_); refine goesS (some 17) Tryd.func87 #[.string a1] ?_; (with_reducible refine (impl_readExpression.calls k a1 t887 t888 false _ A9.out).mono ?_); rintro e w35 ⟨v890, rfl, ho0, hb⟩; refine ⟨_, rfl, ?_⟩; have n0_ := Aside0.mk (Kd.R_lower ho0 (below_size (bW))); have n1_ := Aside0.mk (blkB BK885.out hb); have n2_ := Aside0.mk (below_step (bW) hb); clear BK885; clear HB; have HO891 := n0_; have BK885 := n1_; have HB := n2_; clear n0_ n1_ n2_; (try clear hb); (try clear hb2); (try clear hk); (try clear hi); (try clear ho0)))
    go_ret2
    exact ⟨_, eW, by first | exact Kd.R_nil _ _ _ _ _ | exact Kd.N_nil _ _ _ _ _ | exact Kd.V_nil _ _ _ _ _ | exact Kd.Q_nil _ _ _ _ _ | exact Kd.S_nil _ _ _ _ _, bW⟩
 ·replace c4 := Bool.eq_false_iff.mpr c4
  subst c4
  have H1 : (some (([] : List (S84)), 1)) = some (r1, r2) := by rw [if_neg (show ¬ (false = true) by decide)] at H; exact H
  clear H
  have H := H1
  clear H1
  simp only [Option.some.injEq, Prod.mk.injEq] at H
  obtain ⟨rfl, rfl⟩ := H
  go_enter Tryd.func43, Tryd.ntmps43
  go_wp2_with (first | ((with_reducible refine gate_dst (N := 2) rfl ?_); refine boxS (N := 2) (cs := #[.int .i64 a0_0, .slice A0_1 l0_1.length c0_1]) (t := 29) ?_; intro gb885 hg w36 hbox hb; have n0_ := Aside0.mk (below_step (bW) hb); have n1_ := Aside0.mk (hbox); have n2_ := geW (w := w) hg; have n3_ := geW (w := w) hg; clear HB; have HB := n0_; have BK885 := n1_; have GW885 := n2_; have GE885 := n3_; clear n0_ n1_ n2_ n3_; clear hb hbox hg; obtain ⟨hcz37_0, hcz37_1⟩ := cells2 BK885.out; obtain ⟨hfz37_0, hfz37_1⟩ := frz2 BK885.out) | ((with_reducible refine gate_callee (f := 58) rfl ?_); refine goesS (some 10) Tryd.func58 #[.agg #[.int .i64 a0_0, .slice A0_1 l0_1.length c0_1]] ?_; (with_reducible refine (impl_IsAlphabet.calls k a0_0 _ _ l0_1 false _ ?side1 ?side2 A3.out (tabW HTab.out)).mono ?_); (case side1 => exact cP (Kd.C_below HR0_1.out HB.out)); (case side2 => exact HC0_1.out); rintro e w38 ⟨rfl, hb⟩; refine ⟨_, rfl, ?_⟩; have n0_ := Aside0.mk (blkB BK885.out hb); have n1_ := Aside0.mk (below_step (bW) hb); clear BK885; clear HB; have BK885 := n0_; have HB := n1_; clear n0_ n1_; (try clear hb); (try clear hb2); (try clear hk); (try clear hi)))
  go_ret2
  exact ⟨_, eW, by first | exact Kd.R_nil _ _ _ _ _ | exact Kd.N_nil _ _ _ _ _ | exact Kd.V_nil _ _ _ _ _ | exact Kd.Q_nil _ _ _ _ _ | exact Kd.S_nil _ _ _ _ _, bW⟩

/-! ### laws_markTermS: function 44 -/
def laws_markTermS.l0 : Nat → List (S84) → Int → Int → Option (Int × (List (S84)))
 | 0, _, _, _ => none
 | k + 1, x0, x1, x5 => if x5 < (x0.length : Int) then (if 0 ≤ x5 then ((some (x0.set (x5 : Int).toNat (⟨x1, (rd_T84 x0 x5).f1⟩ : S84) : List (S84))).bind fun y893 => (laws_markTermS.l0 k (y893.set (x5 : Int).toNat (⟨(rd_T84 y893 x5).f0, wrap64 (x1 + 1)⟩ : S84)) (wrap64 ((wrap64 (x1 + 1)) + 1)) (wrap64 (x5 + 1)))) else (none)) else (some (x1, x0))
def laws_markTermS.f (k : Nat) (l0 : List (S84)) (a1 : Int) : Option (Int × (List (S84))) := laws_markTermS.l0 k l0 a1 0
set_option maxHeartbeats 8000000 in
set_option maxRecDepth 100000 in
theorem laws_markTermS.calls (k : Nat) (P0_ : Nat → Prop) (u9000_ : Value) (l0 : List (S84)) (a1 : Int) (r1 : Int) (r2 : List (S84)) (w0 w : World) (hB : Below w0.heap.size w0 w) (ho0 : Kd.R k84 84 w w0.heap.size P0_ u9000_ l0) (h : laws_markTermS.f k l0 a1 = some (r1, r2)) :
  Calls Tryd.prog 44 #[u9000_, .int .i64 a1] w fun e w' => e = .returned (.int .i64 r1) ∧ Kd.R k84 84 w' w0.heap.size (fun k_ => (P0_ k_ ∨ w.heap.size ≤ k_)) u9000_ r2 ∧ Below w0.heap.size w0 w' ∧ Kept w w' (fun k_ => P0_ k_) := by
 have HO0 := Aside0.mk (show Kd.R k84 84 w w0.heap.size (fun k_ => (P0_ k_ ∨ w.heap.size ≤ k_)) u9000_ l0 from Kd.R_mono ho0 (fun k_ hk => (.inl hk)))
 have HK := Aside0.mk (Kept.refl w (fun k_ => P0_ k_))
 have HW0 := Aside0.mk hB.size
 have HB := Aside0.mk hB
 clear hB
 have H : (laws_markTermS.l0 k l0 a1 0) = some (r1, r2) := h
 clear h
 have H' := Aside0.mk H
 clear H
 go_enter Tryd.func44, Tryd.ntmps44
 go_wp2
 go_loopg [1, 5] k (fun kq v1 v5 w' => ∃ (x0_1 : List (S84)) (x1_1 : Int) (x5_1 : Int), v1 = .int .i64 x1_1 ∧ v5 = .int .i64 x5_1 ∧ Aside0 (laws_markTermS.l0 kq x0_1 x1_1 x5_1 = some (r1, r2)) ∧ Aside0 (kq ≤ k) ∧ Aside0 (Kd.R k84 84 w' w0.heap.size (fun k_ => (P0_ k_ ∨ w.heap.size ≤ k_)) u9000_ x0_1) ∧ Aside0 (Kept w w' (fun k_ => P0_ k_)) ∧ Aside0 (Below w0.heap.size w0 w'))
 case atStart => exact ⟨(l0), (a1), (0), (eW), (eW), H', ⟨Nat.le_refl _⟩, ⟨(rP HO0.out)⟩, ⟨kW⟩, ⟨bW⟩⟩
 case round =>
  clear H'
  try clear p2
  obtain ⟨x0_1, x1_1, x5_1, rfl, rfl, HA, HK1, HO_0, HK, HB⟩ := hrel
  cases gk with
  | zero => exact absurd HA.out (by simp [laws_markTermS.l0])
  | succ k1 =>
   have H := HA.out
   clear HA
   simp only [laws_markTermS.l0] at H
   by_cases c3 : x5_1 < (x0_1.length : Int)
   ·rw [if_pos c3] at H
    have c3b0 : decide (x5_1 < (x0_1.length : Int)) = true := decide_eq_true c3
    clear c3
    by_cases c4 : 0 ≤ x5_1
    ·rw [if_pos c4] at H
     have c4b0 : decide (0 ≤ x5_1) = true := decide_eq_true c4
     clear c4
     obtain ⟨y893, hy893⟩ : ∃ y_ : List (S84), y_ = (x0_1.set (x5_1 : Int).toNat (⟨x1_1, (rd_T84 x0_1 x5_1).f1⟩ : S84)) := ⟨_, rfl⟩
     replace H : (laws_markTermS.l0 k1 (y893.set (x5_1 : Int).toNat (⟨(rd_T84 y893 x5_1).f0, wrap64 (x1_1 + 1)⟩ : S84)) (wrap64 ((wrap64 (x1_1 + 1)) + 1)) (wrap64 (x5_1 + 1))) = some (r1, r2) := by first | (rw [hy893]; with_reducible exact H) | (have H2_ := (Option.bind_some _ _).symm.trans H; rw [hy893]; with_reducible exact H2_) | (have H2_ := (Option.bind_some _ _).symm.trans H; with_reducible exact H2_) | with_reducible exact H | (rw [hy893]; exact H) | exact H
     have Ny893 := Aside0.mk hy893
     clear hy893
     obtain ⟨y894, hy894⟩ : ∃ y_ : List (S84), y_ = (y893.set (x5_1 : Int).toNat (⟨(rd_T84 y893 x5_1).f0, wrap64 (x1_1 + 1)⟩ : S84)) := ⟨_, rfl⟩
     replace H : (laws_markTermS.l0 k1 y894 (wrap64 ((wrap64 (x1_1 + 1)) + 1)) (wrap64 (x5_1 + 1))) = some (r1, r2) := by first | (rw [hy894]; with_reducible exact H) | (have H2_ := (Option.bind_some _ _).symm.trans H; rw [hy894]; with_reducible exact H2_) | (have H2_ := (Option.bind_some _ _).symm.trans H; with_reducible exact H2_) | with_reducible exact H | (rw [hy894]; exact H) | exact H
     have Ny894 := Aside0.mk hy894
     clear hy894
     have H' := Aside0.mk H
     clear H
     obtain ⟨Ao7, co7, eo7⟩ := Kd.R_slice HO_0.out
     subst eo7
     have p5 : 0 ≤ (x5_1 : Int) := ofD
     have q5 : (x5_1 : Int) < ((x0_1.length : Int) : Int) := ofD
     obtain ⟨go5, co5, eo5, gb5, gl5, cl5, HG5⟩ := Kd.R_form HO_0.out (by omega)
     (first | cases eo5 | (injection eo5 with ea_ en_ ec_; (first | subst ea_ | (injection ea_ with ea_; subst ea_)); subst ec_; clear en_))
     have GB5 := Aside0.mk gb5
     have GG5 := Aside0.mk HG5
     clear gb5 gl5 HG5
     have HMgo5 := Aside0.mk (show (P0_ go5 ∨ w.heap.size ≤ go5) from (HO_0.out.1 _ rfl))
     obtain ⟨ce5, hcl5, hM5, hcc5, hfr5⟩ := Kd.R_elem HO_0.out z84 (x5_1 : Int) p5 q5
     obtain rfl := k84_openM hM5
     have hx5_0 : wr.cell? ⟨go5, (x5_1 : Int).toNat * 2, none⟩ = some (.int .i64 ((rd_T84 x0_1 x5_1).f0)) := hcc5 0 _ rfl
     have hx5_1 : wr.cell? ⟨go5, (x5_1 : Int).toNat * 2 + 1, none⟩ = some (.int .i64 ((rd_T84 x0_1 x5_1).f1)) := hcc5 1 _ rfl
     have hf5_0 : wr.frozen? ⟨go5, (x5_1 : Int).toNat * 2, none⟩ = false := hfr5 0
     have hf5_1 : wr.frozen? ⟨go5, (x5_1 : Int).toNat * 2 + 1, none⟩ = false := hfr5 1
     clear hcl5 hcc5 hfr5; (try clear hM5)
     replace p5 := eq_true p5
     replace q5 := eq_true q5
     have HX8 := Aside0.mk (show Kd.R k84 84 wr w0.heap.size (fun k_ => (P0_ k_ ∨ w.heap.size ≤ k_)) (.slice (some ⟨go5, 0, none⟩) x0_1.length co7) x0_1 from (rP HO_0.out))
     obtain ⟨ce8, hcl8, hM8, hcc8, hfr8⟩ := Kd.R_elem HX8.out z84 (x5_1 : Int) (ofD) (by have h_ : (x5_1 : Int) < ((x0_1.length : Int) : Int) := ofD; first | exact h_ | (have e_ := (Kd.R_reads' HO_0.out).1; omega) | simpa using h_)
     obtain rfl := k84_openM hM8
     have HP8 := Kd.R_seg HX8.out (x5_1 : Int) (ofD) (by have h_ : (x5_1 : Int) < ((x0_1.length : Int) : Int) := ofD; first | exact h_ | (have e_ := (Kd.R_reads' HO_0.out).1; omega) | simpa using h_) (seg := [.int .i64 x1_1]) (j := 0) hcl8 hcc8 (show 1 ≤ 2 from by decide) (x' := (⟨x1_1, (rd_T84 x0_1 x5_1).f1⟩ : S84)) (k84_mkM _ _ _ (⟨x1_1, (rd_T84 x0_1 x5_1).f1⟩ : S84) ) (fun _ hk => hk)
     have hx8_0 := hcc8 0 _ rfl
     (try simp only [show (k84).sz = 2 from rfl, Nat.mul_one, Nat.add_zero] at hx8_0)
     have hf8_0 := hfr8 0
     (try simp only [show (k84).sz = 2 from rfl, Nat.mul_one, Nat.add_zero] at hf8_0)
     clear hcl8 hcc8 hfr8; (try clear hM8)
     go_wp2_with (first | ((with_reducible refine gate_store (t := 2) (p := 16) rfl ?_); refine storeS (t := 2) (p := 16) (w1 := (wr.setCell ⟨go5, (x5_1 : Int).toNat * 2, none⟩ (.int .i64 x1_1))) ?_; intro w9 hw; have hg : wr.grownBy w9 (some go5) := (by rw [hw]; exact HP8.2); have hp_ : Kd.R k84 84 w9 w0.heap.size (fun k_ => (P0_ k_ ∨ w.heap.size ≤ k_)) (.slice (some ⟨go5, 0, none⟩) x0_1.length co7) y893 := (by rw [hw, Ny893.out]; exact HP8.1); clear HP8; have n0_ := Aside0.mk (hp_); have n1_ := Aside0.mk ((by rw [hw]; exact below_set (HB.out) GB5.out : Below w0.heap.size w0 w9)); have n2_ := Aside0.mk (Kept.of_grown (S := (fun k_ => P0_ k_)) hg (kW) (fun k_ e_ => (HO_0.out.1 k_ e_))); clear HO_0; clear HB; clear HK; have HO_0 := n0_; have HB := n1_; have HK := n2_; clear n0_ n1_ n2_; clear hg hw hp_; have p6 : 0 ≤ (x5_1 : Int) := ofD; have q6 : (x5_1 : Int) < ((x0_1.length : Int) : Int) := ofD; obtain ⟨ce6, hcl6, hM6, hcc6, hfr6⟩ := Kd.R_elem HO_0.out z84 (x5_1 : Int) p6 q6; obtain rfl := k84_openM hM6; have hx6_0 : w9.cell? ⟨go5, (x5_1 : Int).toNat * 2, none⟩ = some (.int .i64 ((rd_T84 y893 x5_1).f0)) := hcc6 0 _ rfl; have hx6_1 : w9.cell? ⟨go5, (x5_1 : Int).toNat * 2 + 1, none⟩ = some (.int .i64 ((rd_T84 y893 x5_1).f1)) := hcc6 1 _ rfl; have hf6_0 : w9.frozen? ⟨go5, (x5_1 : Int).toNat * 2, none⟩ = false := hfr6 0; have hf6_1 : w9.frozen? ⟨go5, (x5_1 : Int).toNat * 2 + 1, none⟩ = false := hfr6 1; clear hcl6 hcc6 hfr6; (try clear hM6); replace p6 := eq_true p6; replace q6 := eq_true q6; have HX10 := Aside0.mk (show Kd.R k84 84 w9 w0.heap.size (fun k_ => (P0_ k_ ∨ w.heap.size ≤ k_)) (.slice (some ⟨go5, 0, none⟩) x0_1.length co7) y893 from (rP HO_0.out)); obtain ⟨ce10, hcl10, hM10, hcc10, hfr10⟩ := Kd.R_elem HX10.out z84 (x5_1 : Int) (ofD) (by have h_ : (x5_1 : Int) < ((x0_1.length : Int) : Int) := ofD; first | exact h_ | (have e_ := (Kd.R_reads' HO_0.out).1; omega) | simpa using h_); obtain rfl := k84_openM hM10; have HP10 := Kd.R_seg HX10.out (x5_1 : Int) (ofD) (by have h_ : (x5_1 : Int) < ((x0_1.length : Int) : Int) := ofD; first | exact h_ | (have e_ := (Kd.R_reads' HO_0.out).1; omega) | simpa using h_) (seg := [.int .i64 (wrap64 (x1_1 + 1))]) (j := 1) hcl10 hcc10 (show 2 ≤ 2 from by decide) (x' := (⟨(rd_T84 y893 x5_1).f0, wrap64 (x1_1 + 1)⟩ : S84)) (k84_mkM _ _ _ (⟨(rd_T84 y893 x5_1).f0, wrap64 (x1_1 + 1)⟩ : S84) ) (fun _ hk => hk); have hx10_1 := hcc10 1 _ rfl; (try simp only [show (k84).sz = 2 from rfl, Nat.mul_one, Nat.add_zero] at hx10_1); have hf10_1 := hfr10 1; (try simp only [show (k84).sz = 2 from rfl, Nat.mul_one, Nat.add_zero] at hf10_1); clear hcl10 hcc10 hfr10; (try clear hM10)) | ((with_reducible refine gate_store (t := 2) (p := 23) rfl ?_); refine store_event (t := 2) (p := 23) (v := ?vo_w11) (w1 := (w9.setCell ⟨go5, (x5_1 : Int).toNat * 2 + 1, none⟩ (.int .i64 (wrap64 (x1_1 + 1))))) ?hg ?ho ?hn ?hr ?_; (case ho => rfl); (case hg => rfl); (case hn => rfl); (case hr => first | (go_simp; done) | (go_simp; rfl)); intro w11 hw; have hg : w9.grownBy w11 (some go5) := (by rw [hw]; exact HP10.2); have hp_ : Kd.R k84 84 w11 w0.heap.size (fun k_ => (P0_ k_ ∨ w.heap.size ≤ k_)) (.slice (some ⟨go5, 0, none⟩) x0_1.length co7) y894 := (by rw [hw, Ny894.out]; exact HP10.1); clear HP10; have n0_ := Aside0.mk (hp_); have n1_ := Aside0.mk ((by rw [hw]; exact below_set (HB.out) GB5.out : Below w0.heap.size w0 w11)); have n2_ := Aside0.mk (Kept.of_grown (S := (fun k_ => P0_ k_)) hg (kW) (fun k_ e_ => (HO_0.out.1 k_ e_))); clear HO_0; clear HB; clear HK; have HO_0 := n0_; have HB := n1_; have HK := n2_; clear n0_ n1_ n2_; clear hg hw hp_))
     go_roundg k1
     case measure => have := HK1.out; omega
     case rel => exact ⟨(y894), (wrap64 ((wrap64 (x1_1 + 1)) + 1)), (wrap64 (x5_1 + 1)), (eW), (eW), H', ⟨by have := HK1.out; omega⟩, ⟨(rP HO_0.out)⟩, ⟨kW⟩, ⟨bW⟩⟩
    ·rw [if_neg c4] at H
     exact absurd H (by simp)
   ·rw [if_neg c3] at H
    have c3b0 : decide (x5_1 < (x0_1.length : Int)) = false := decide_eq_false c3
    clear c3
    simp only [Option.some.injEq, Prod.mk.injEq] at H
    obtain ⟨rfl, rfl⟩ := H
    obtain ⟨Ao12, co12, eo12⟩ := Kd.R_slice HO_0.out
    subst eo12
    go_wp2
    go_ret
    exact ⟨eW, (rP HO_0.out), bW, kW⟩

/-! ### laws_heldTermS: function 45 -/
def laws_heldTermS.l0 : Nat → List (S84) → Int → Int → Option (Int)
 | 0, _, _, _ => none
 | k + 1, x0, x1, x5 => if x5 < (x0.length : Int) then (if 0 ≤ x5 then (if ((rd_T84 x0 x5).f0) = x1 then (if ((rd_T84 x0 x5).f1) = (wrap64 (x1 + 1)) then (laws_heldTermS.l0 k x0 (wrap64 ((wrap64 (x1 + 1)) + 1)) (wrap64 (x5 + 1))) else (some (-1))) else (some (-1))) else (none)) else (some x1)
def laws_heldTermS.f (k : Nat) (l0 : List (S84)) (a1 : Int) : Option (Int) := laws_heldTermS.l0 k l0 a1 0
set_option maxHeartbeats 8000000 in
set_option maxRecDepth 100000 in
theorem laws_heldTermS.calls (k : Nat) (A0 : Option Addr) (c0 : Nat) (l0 : List (S84)) (a1 : Int) (r : Int) (w : World) (hr0 : Kd.C k84 w A0 l0.length l0) (hc0 : l0.length ≤ c0) (h : laws_heldTermS.f k l0 a1 = some r) :
  Calls Tryd.prog 45 #[.slice A0 l0.length c0, .int .i64 a1] w fun e w' => e = .returned (.int .i64 r) ∧ Drawn0 w w' := by
 have HR0 := Aside0.mk hr0
 have HC0 := Aside0.mk hc0
 clear hr0 hc0
 have H : (laws_heldTermS.l0 k l0 a1 0) = some r := h
 clear h
 have H' := Aside0.mk H
 clear H
 go_enter Tryd.func45, Tryd.ntmps45
 go_wp2
 go_loopg [1, 5] k (fun kq v1 v5 w' => ∃ (x1_1 : Int) (x5_1 : Int), v1 = .int .i64 x1_1 ∧ v5 = .int .i64 x5_1 ∧ Aside0 (laws_heldTermS.l0 kq l0 x1_1 x5_1 = some r) ∧ Aside0 (kq ≤ k) ∧ Drawn0 w w')
 case atStart => exact ⟨(a1), (0), (eW), (eW), H', ⟨Nat.le_refl _⟩, by repeat (first | exact Drawn0.refl _ | apply Drawn0.step)⟩
 case round =>
  clear H'
  try clear p2
  obtain ⟨x1_1, x5_1, rfl, rfl, HA, HK1, ⟨m1, rfl⟩⟩ := hrel
  cases gk with
  | zero => exact absurd HA.out (by simp [laws_heldTermS.l0])
  | succ k1 =>
   have H := HA.out
   clear HA
   simp only [laws_heldTermS.l0] at H
   by_cases c3 : x5_1 < (l0.length : Int)
   ·rw [if_pos c3] at H
    have c3b0 : decide (x5_1 < (l0.length : Int)) = true := decide_eq_true c3
    clear c3
    by_cases c4 : 0 ≤ x5_1
    ·rw [if_pos c4] at H
     have c4b0 : decide (0 ≤ x5_1) = true := decide_eq_true c4
     clear c4
     by_cases c5 : ((rd_T84 l0 x5_1).f0) = x1_1
     ·rw [if_pos c5] at H
      have c5b0 : (((rd_T84 l0 x5_1).f0) == x1_1) = true := beq_iff_eq.mpr c5
      have c5b1 : (((rd_T84 l0 x5_1).f0) != x1_1) = false := bne_eq_false_iff_eq.mpr c5
      clear c5
      by_cases c6 : ((rd_T84 l0 x5_1).f1) = (wrap64 (x1_1 + 1))
      ·rw [if_pos c6] at H
       have c6b0 : (((rd_T84 l0 x5_1).f1) == (wrap64 (x1_1 + 1))) = true := beq_iff_eq.mpr c6
       have c6b1 : (((rd_T84 l0 x5_1).f1) != (wrap64 (x1_1 + 1))) = false := bne_eq_false_iff_eq.mpr c6
       clear c6
       have H' := Aside0.mk H
       clear H
       have p895 : 0 ≤ (x5_1 : Int) := ofD
       have q895 : x5_1 < (l0.length : Int) := ofD
       obtain ⟨ad895, e895, hx895_0, hx895_1⟩ := at_T84 HR0.out x5_1 p895 q895
       cases e895
       replace p895 := eq_true p895
       replace q895 := eq_true q895
       have p896 : 0 ≤ (x5_1 : Int) := ofD
       have q896 : x5_1 < (l0.length : Int) := ofD
       obtain ⟨ad896, e896, hx896_0, hx896_1⟩ := at_T84 HR0.out x5_1 p896 q896
       obtain rfl : ad895 = ad896 := (by injection e896)
       replace p896 := eq_true p896
       replace q896 := eq_true q896
       go_wp2
       go_roundg k1
       case measure => have := HK1.out; omega
       case rel => exact ⟨(wrap64 ((wrap64 (x1_1 + 1)) + 1)), (wrap64 (x5_1 + 1)), (eW), (eW), H', ⟨by have := HK1.out; omega⟩, by repeat (first | exact Drawn0.refl _ | apply Drawn0.step)⟩
      ·rw [if_neg c6] at H
       have c6b0 : (((rd_T84 l0 x5_1).f1) == (wrap64 (x1_1 + 1))) = false := beq_eq_false_iff_ne.mpr c6
       have c6b1 : (((rd_T84 l0 x5_1).f1) != (wrap64 (x1_1 + 1))) = true := bne_iff_ne.mpr c6
       obtain rfl := Option.some.inj H
       have p895 : 0 ≤ (x5_1 : Int) := ofD
       have q895 : x5_1 < (l0.length : Int) := ofD
       obtain ⟨ad895, e895, hx895_0, hx895_1⟩ := at_T84 HR0.out x5_1 p895 q895
       cases e895
       replace p895 := eq_true p895
       replace q895 := eq_true q895
       have p896 : 0 ≤ (x5_1 : Int) := ofD
       have q896 : x5_1 < (l0.length : Int) := ofD
       obtain ⟨ad896, e896, hx896_0, hx896_1⟩ := at_T84 HR0.out x5_1 p896 q896
       obtain rfl : ad895 = ad896 := (by injection e896)
       replace p896 := eq_true p896
       replace q896 := eq_true q896
       go_wp2
       go_ret
       exact ⟨eW, by repeat (first | exact Drawn0.refl _ | apply Drawn0.step)⟩
     ·rw [if_neg c5] at H
      have c5b0 : (((rd_T84 l0 x5_1).f0) == x1_1) = false := beq_eq_false_iff_ne.mpr c5
      have c5b1 : (((rd_T84 l0 x5_1).f0) != x1_1) = true := bne_iff_ne.mpr c5
      obtain rfl := Option.some.inj H
      have p895 : 0 ≤ (x5_1 : Int) := ofD
      have q895 : x5_1 < (l0.length : Int) := ofD
      obtain ⟨ad895, e895, hx895_0, hx895_1⟩ := at_T84 HR0.out x5_1 p895 q895
      cases e895
      replace p895 := eq_true p895
      replace q895 := eq_true q895
      go_wp2
      go_ret
      exact ⟨eW, by repeat (first | exact Drawn0.refl _ | apply Drawn0.step)⟩
    ·rw [if_neg c4] at H
     exact absurd H (by simp)
   ·rw [if_neg c3] at H
    have c3b0 : decide (x5_1 < (l0.length : Int)) = false := decide_eq_false c3
    clear c3
    obtain rfl := Option.some.inj H
    go_wp2
    go_ret
    exact ⟨eW, by repeat (first | exact Drawn0.refl _ | apply Drawn0.step)⟩

end Go.Proofs.YthbaocejgjpfoaaDoor.P
end M0
section M1
namespace Go.Proofs.YthbaocejgjpfoaaDoor.P
open Go.RowKit Go.Proofs.YthbaocejgjpfoaaDoor.Sh Go.Proofs.YthbaocejgjpfoaaDoorW.PrintWords Go.Proofs.YthbaocejgjpfoaaDoorW.PrintLast Go.Proofs.YthbaocejgjpfoaaDoorW.PrintMore
attribute [local go_sem] max2_int min2_int max_two min_two max_three min_three max_four min_four   -- for this text's walks alone
set_option linter.unusedVariables false
set_option linter.unusedSimpArgs false

/-! ### laws_FnExactParseExpression: function 8 -/
mutual
def laws_FnExactParseExpression.j0 : Nat → ByteArray → List (S84) → Int → List (S84) → Int → Bool → Int → List Int → Int → List Int → Option (Bool)
 | 0, _, _, _, _, _, _, _, _, _, _ => none
 | k + 1, x1, x6, x7, x9, x10, x47, x898000, x898001, x912000, x912001 => if x47 = true then (some false) else ((laws_toAlphabet.f k x898000 x898001).bind fun bt917 => ((laws_eqAlphabet.f k x912000 x912001 bt917.1 bt917.2).bind fun t921 => (if t921 = true then ((laws_markAlphabet.f k x912000 x912001 1).bind fun bt922 => (if bt922.1 < 0 then (laws_FnExactParseExpression.j1 k x1 x6 x7 x9 true x898000 x898001) else ((laws_eqTermS.f k x9 x6).bind fun t924 => (if t924 = true then (laws_FnExactParseExpression.j1 k x1 x6 x7 x9 (x10 != x7) x898000 x898001) else (laws_FnExactParseExpression.j1 k x1 x6 x7 x9 true x898000 x898001))))) else (some false))))
def laws_FnExactParseExpression.j1 : Nat → ByteArray → List (S84) → Int → List (S84) → Bool → Int → List Int → Option (Bool)
 | 0, _, _, _, _, _, _, _ => none
 | k + 1, x1, x6, x7, x9, x68, x898000, x898001 => if x68 = true then (some false) else ((laws_markTermS.f k x9 1).bind fun bt925 => ((laws_heldTermS.f k bt925.2 1).bind fun t927 => (if t927 < 0 then (some false) else (if t927 = bt925.1 then ((laws_toAlphabet.f k x898000 x898001).bind fun bt928 => ((impl_ParseExpression.f k bt928.1 bt928.2 x1).bind fun bt932 => ((laws_eqTermS.f k bt932.1 x6).bind fun t936 => (if t936 = true then (laws_FnExactParseExpression.j2 k bt925.2 bt925.1 (bt932.2 != x7)) else (laws_FnExactParseExpression.j2 k bt925.2 bt925.1 true))))) else (some false)))))
def laws_FnExactParseExpression.j2 : Nat → List (S84) → Int → Bool → Option (Bool)
 | 0, _, _, _ => none
 | k + 1, x9, x12, x95 => if x95 = true then (some false) else ((laws_heldTermS.f k x9 1).bind fun t937 => (if t937 < 0 then (some false) else (if t937 = x12 then (some true) else (some false))))
end
def laws_FnExactParseExpression.f (k : Nat) (a0_0 : Int) (l0_1 : List Int) (a1 : ByteArray) : Option (Bool) := if (a1.size : Int) > 1048576 then (some true) else ((laws_szAlphabet.f a0_0 l0_1 1048576).bind fun t898 => (if t898 < 0 then (some true) else ((laws_toAlphabet.f k a0_0 l0_1).bind fun bt899 => ((spec_ParseExpression.f k bt899.1 bt899.2 a1).bind fun bt903 => ((laws_toAlphabet.f k a0_0 l0_1).bind fun bt907 => ((impl_ParseExpression.f k bt907.1 bt907.2 a1).bind fun bt912 => ((laws_eqTermS.f k bt912.1 bt903.1).bind fun t916 => (if t916 = true then (laws_FnExactParseExpression.j0 k a1 bt903.1 bt903.2 bt912.1 bt912.2 (bt912.2 != bt903.2) a0_0 l0_1 bt907.1 bt907.2) else (laws_FnExactParseExpression.j0 k a1 bt903.1 bt903.2 bt912.1 bt912.2 true a0_0 l0_1 bt907.1 bt907.2)))))))))
set_option maxHeartbeats 8000000 in
set_option maxRecDepth 100000 in
theorem laws_FnExactParseExpression.calls (k : Nat) (a0_0 : Int) (A0_1 : Option Addr) (c0_1 : Nat) (l0_1 : List Int) (a1 : ByteArray) (r : Bool) (w : World) (hr0_1 : Kd.C (Kd.int .i64) w A0_1 l0_1.length l0_1) (hc0_1 : l0_1.length ≤ c0_1) (h : laws_FnExactParseExpression.f k a0_0 l0_1 a1 = some r) (hT_ : r = true) (hTab : Tab w) :
  Calls Tryd.prog 8 #[.agg #[.int .i64 a0_0, .slice A0_1 l0_1.length c0_1], .string a1] w fun e w' => e = .returned (.bool r) ∧ Below w.heap.size w w' := by
 have HTab := Aside0.mk hTab
 clear hTab
 have HTr_ := Aside0.mk hT_
 clear hT_
 have hu24 := Tryd.underlying24
 have hu29 := Tryd.underlying29
 have HR0_1 := Aside0.mk hr0_1
 have HC0_1 := Aside0.mk hc0_1
 clear hr0_1 hc0_1
 have HB := Aside0.mk (Below.refl w.heap.size w)
 have H : (if (a1.size : Int) > 1048576 then (some true) else ((laws_szAlphabet.f a0_0 l0_1 1048576).bind fun t898 => (if t898 < 0 then (some true) else ((laws_toAlphabet.f k a0_0 l0_1).bind fun bt899 => ((spec_ParseExpression.f k bt899.1 bt899.2 a1).bind fun bt903 => ((laws_toAlphabet.f k a0_0 l0_1).bind fun bt907 => ((impl_ParseExpression.f k bt907.1 bt907.2 a1).bind fun bt912 => ((laws_eqTermS.f k bt912.1 bt903.1).bind fun t916 => (if t916 = true then (laws_FnExactParseExpression.j0 k a1 bt903.1 bt903.2 bt912.1 bt912.2 (bt912.2 != bt903.2) a0_0 l0_1 bt907.1 bt907.2) else (laws_FnExactParseExpression.j0 k a1 bt903.1 bt903.2 bt912.1 bt912.2 true a0_0 l0_1 bt907.1 bt907.2)))))))))) = some r := h
 clear h
 by_cases c3 : (a1.size : Int) > 1048576
 ·rw [if_pos c3] at H
  have c3b0 : decide (1048576 < (a1.size : Int)) = true := decide_eq_true c3
  have c3b1 : decide (1048576 < a1.size) = true := decide_eq_true (by omega)
  clear c3
  obtain rfl := Option.some.inj H
  go_enter Tryd.func8, Tryd.ntmps8
  go_wp2_with (first | ((with_reducible refine gate_dst (N := 2) rfl ?_); refine boxS (N := 2) (cs := #[.int .i64 a0_0, .slice A0_1 l0_1.length c0_1]) (t := 24) ?_; intro gb897 hg w4 hbox hb; have n0_ := Aside0.mk (below_step (bW) hb); have n1_ := Aside0.mk (hbox); have n2_ := geW (w := w) hg; have n3_ := geW (w := w) hg; clear HB; have HB := n0_; have BK897 := n1_; have GW897 := n2_; have GE897 := n3_; clear n0_ n1_ n2_ n3_; clear hb hbox hg))
  go_ret
  exact ⟨eW, bW⟩
 ·rw [if_neg c3] at H
  have c3b0 : decide (1048576 < (a1.size : Int)) = false := decide_eq_false c3
  have c3b1 : decide (1048576 < a1.size) = false := decide_eq_false (by omega)
  clear c3
  replace H := Option.bind_eq_some_iff.mp H
  obtain ⟨t898, A50, H⟩ := H
  replace H : (if t898 < 0 then (some true) else ((laws_toAlphabet.f k a0_0 l0_1).bind fun bt899 => ((spec_ParseExpression.f k bt899.1 bt899.2 a1).bind fun bt903 => ((laws_toAlphabet.f k a0_0 l0_1).bind fun bt907 => ((impl_ParseExpression.f k bt907.1 bt907.2 a1).bind fun bt912 => ((laws_eqTermS.f k bt912.1 bt903.1).bind fun t916 => (if t916 = true then (laws_FnExactParseExpression.j0 k a1 bt903.1 bt903.2 bt912.1 bt912.2 (bt912.2 != bt903.2) a0_0 l0_1 bt907.1 bt907.2) else (laws_FnExactParseExpression.j0 k a1 bt903.1 bt903.2 bt912.1 bt912.2 true a0_0 l0_1 bt907.1 bt907.2)))))))) = some r := H
  have A5 := Aside0.mk A50
  clear A50
  by_cases c6 : t898 < 0
  ·rw [if_pos c6] at H
   have c6b0 : decide (t898 < 0) = true := decide_eq_true c6
   clear c6
   obtain rfl := Option.some.inj H
   go_enter Tryd.func8, Tryd.ntmps8
   go_wp2_with (first | ((with_reducible refine gate_dst (N := 2) rfl ?_); refine boxS (N := 2) (cs := #[.int .i64 a0_0, .slice A0_1 l0_1.length c0_1]) (t := 24) ?_; intro gb897 hg w7 hbox hb; have n0_ := Aside0.mk (below_step (bW) hb); have n1_ := Aside0.mk (hbox); have n2_ := geW (w := w) hg; have n3_ := geW (w := w) hg; clear HB; have HB := n0_; have BK897 := n1_; have GW897 := n2_; have GE897 := n3_; clear n0_ n1_ n2_ n3_; clear hb hbox hg; obtain ⟨hcz8_0, hcz8_1⟩ := cells2 BK897.out; obtain ⟨hfz8_0, hfz8_1⟩ := frz2 BK897.out) | ((with_reducible refine gate_callee (f := 12) rfl ?_); refine goesS (some 21) Tryd.func12 #[.agg #[.int .i64 a0_0, .slice A0_1 l0_1.length c0_1], .int .i64 1048576] ?_; (with_reducible refine (laws_szAlphabet.calls a0_0 _ _ l0_1 1048576 t898 _ ?side1 ?side2 A5.out).mono ?_); (case side1 => exact cP (Kd.C_below HR0_1.out HB.out)); (case side2 => exact HC0_1.out); rintro e w9 ⟨rfl, hb⟩; refine ⟨_, rfl, ?_⟩; have n0_ := Aside0.mk (blkB BK897.out hb); have n1_ := Aside0.mk (below_step (bW) hb); clear BK897; clear HB; have BK897 := n0_; have HB := n1_; clear n0_ n1_; (try clear hb); (try clear hb2); (try clear hk); (try clear hi)))
   go_ret
   exact ⟨eW, bW⟩
  ·rw [if_neg c6] at H
   have c6b0 : decide (t898 < 0) = false := decide_eq_false c6
   clear c6
   replace H := Option.bind_eq_some_iff.mp H
   obtain ⟨⟨t899, t900⟩, A100, H⟩ := H
   replace H : ((spec_ParseExpression.f k t899 t900 a1).bind fun bt903 => ((laws_toAlphabet.f k a0_0 l0_1).bind fun bt907 => ((impl_ParseExpression.f k bt907.1 bt907.2 a1).bind fun bt912 => ((laws_eqTermS.f k bt912.1 bt903.1).bind fun t916 => (if t916 = true then (laws_FnExactParseExpression.j0 k a1 bt903.1 bt903.2 bt912.1 bt912.2 (bt912.2 != bt903.2) a0_0 l0_1 bt907.1 bt907.2) else (laws_FnExactParseExpression.j0 k a1 bt903.1 bt903.2 bt912.1 bt912.2 true a0_0 l0_1 bt907.1 bt907.2)))))) = some r := H
   have A10 := Aside0.mk A100
   clear A100
   replace H := Option.bind_eq_some_iff.mp H
   obtain ⟨⟨t903, t906⟩, A110, H⟩ := H
   replace H : ((laws_toAlphabet.f k a0_0 l0_1).bind fun bt907 => ((impl_ParseExpression.f k bt907.1 bt907.2 a1).bind fun bt912 => ((laws_eqTermS.f k bt912.1 t903).bind fun t916 => (if t916 = true then (laws_FnExactParseExpression.j0 k a1 t903 t906 bt912.1 bt912.2 (bt912.2 != t906) a0_0 l0_1 bt907.1 bt907.2) else (laws_FnExactParseExpression.j0 k a1 t903 t906 bt912.1 bt912.2 true a0_0 l0_1 bt907.1 bt907.2))))) = some r := H
   have A11 := Aside0.mk A110
   clear A110
   replace H := Option.bind_eq_some_iff.mp H
   obtain ⟨⟨t907, t908⟩, A120, H⟩ := H
   replace H : ((impl_ParseExpression.f k t907 t908 a1).bind fun bt912 => ((laws_eqTermS.f k bt912.1 t903).bind fun t916 => (if t916 = true then (laws_FnExactParseExpression.j0 k a1 t903 t906 bt912.1 bt912.2 (bt912.2 != t906) a0_0 l0_1 t907 t908) else (laws_FnExactParseExpression.j0 k a1 t903 t906 bt912.1 bt912.2 true a0_0 l0_1 t907 t908)))) = some r := H
   have A12 := Aside0.mk A120
   clear A120
   replace H := Option.bind_eq_some_iff.mp H
   obtain ⟨⟨t912, t915⟩, A130, H⟩ := H
   replace H : ((laws_eqTermS.f k t912 t903).bind fun t916 => (if t916 = true then (laws_FnExactParseExpression.j0 k a1 t903 t906 t912 t915 (t915 != t906) a0_0 l0_1 t907 t908) else (laws_FnExactParseExpression.j0 k a1 t903 t906 t912 t915 true a0_0 l0_1 t907 t908))) = some r := H
   have A13 := Aside0.mk A130
   clear A130
   have HC14 := Aside0.mk H
   clear H
   go_enter Tryd.func8, Tryd.ntmps8
   go_upto_region 10 with (first | ((with_reducible refine gate_dst (N := 2) rfl ?_); refine boxS (N := 2) (cs := #[.int .i64 a0_0, .slice A0_1 l0_1.length c0_1]) (t := 24) ?_; intro gb897 hg w15 hbox hb; have n0_ := Aside0.mk (below_step (bW) hb); have n1_ := Aside0.mk (hbox); have n2_ := geW (w := w) hg; have n3_ := geW (w := w) hg; clear HB; have HB := n0_; have BK897 := n1_; have GW897 := n2_; have GE897 := n3_; clear n0_ n1_ n2_ n3_; clear hb hbox hg; obtain ⟨hcz16_0, hcz16_1⟩ := cells2 BK897.out; obtain ⟨hfz16_0, hfz16_1⟩ := frz2 BK897.out) | ((with_reducible refine gate_callee (f := 12) rfl ?_); refine goesS (some 21) Tryd.func12 #[.agg #[.int .i64 a0_0, .slice A0_1 l0_1.length c0_1], .int .i64 1048576] ?_; (with_reducible refine (laws_szAlphabet.calls a0_0 _ _ l0_1 1048576 t898 _ ?side1 ?side2 A5.out).mono ?_); (case side1 => exact cP (Kd.C_below HR0_1.out HB.out)); (case side2 => exact HC0_1.out); rintro e w17 ⟨rfl, hb⟩; refine ⟨_, rfl, ?_⟩; have n0_ := Aside0.mk (blkB BK897.out hb); have n1_ := Aside0.mk (below_step (bW) hb); clear BK897; clear HB; have BK897 := n0_; have HB := n1_; clear n0_ n1_; (try clear hb); (try clear hb2); (try clear hk); (try clear hi); obtain ⟨hcz18_0, hcz18_1⟩ := cells2 BK897.out; obtain ⟨hfz18_0, hfz18_1⟩ := frz2 BK897.out) | ((with_reducible refine gate_callee (f := 15) rfl ?_); refine goesS (some 26) Tryd.func15 #[.agg #[.int .i64 a0_0, .slice A0_1 l0_1.length c0_1]] ?_; (with_reducible refine (laws_toAlphabet.calls k a0_0 _ _ l0_1 t899 t900 _ ?side1 ?side2 A10.out).mono ?_); (case side1 => exact cP (Kd.C_below HR0_1.out HB.out)); (case side2 => exact HC0_1.out); rintro e w19 ⟨v901, rfl, ho0, hb⟩; refine ⟨_, rfl, ?_⟩; have n0_ := Aside0.mk (Kd.R_lower ho0 (below_size (bW))); have n1_ := Aside0.mk (blkB BK897.out hb); have n2_ := Aside0.mk (below_step (bW) hb); clear BK897; clear HB; have HO902 := n0_; have BK897 := n1_; have HB := n2_; clear n0_ n1_ n2_; (try clear hb); (try clear hb2); (try clear hk); (try clear hi); (try clear ho0); obtain ⟨Ao20, co20, eo20⟩ := Kd.R_slice HO902.out; subst eo20) | ((with_reducible refine gate_callee (f := 42) rfl ?_); refine goesS (some 28) Tryd.func42 #[.agg #[.int .i64 t899, .slice Ao20 t900.length co20], .string a1] ?_; (with_reducible refine (spec_ParseExpression.calls k t899 _ _ t900 a1 t903 t906 _ ?side1 ?side2 A11.out).mono ?_); (case side1 => exact cP ((Kd.R_reads' HO902.out).2.2)); (case side2 => exact (Kd.R_reads' HO902.out).2.1); rintro e w21 ⟨v904, rfl, ho0, hb⟩; refine ⟨_, rfl, ?_⟩; have n0_ := Aside0.mk (Kd.R_below (rP HO902.out) hb); have n1_ := Aside0.mk (Kd.R_lower ho0 (below_size (bW))); have n2_ := Aside0.mk (blkB BK897.out hb); have n3_ := Aside0.mk (below_step (bW) hb); clear HO902; clear BK897; clear HB; have HO902 := n0_; have HO905 := n1_; have BK897 := n2_; have HB := n3_; clear n0_ n1_ n2_ n3_; (try clear hb); (try clear hb2); (try clear hk); (try clear hi); (try clear ho0); obtain ⟨hcz22_0, hcz22_1⟩ := cells2 BK897.out; obtain ⟨hfz22_0, hfz22_1⟩ := frz2 BK897.out) | ((with_reducible refine gate_callee (f := 15) rfl ?_); refine goesS (some 32) Tryd.func15 #[.agg #[.int .i64 a0_0, .slice A0_1 l0_1.length c0_1]] ?_; (with_reducible refine (laws_toAlphabet.calls k a0_0 _ _ l0_1 t907 t908 _ ?side1 ?side2 A12.out).mono ?_); (case side1 => exact cP (Kd.C_below HR0_1.out HB.out)); (case side2 => exact HC0_1.out); rintro e w23 ⟨v909, rfl, ho0, hb⟩; refine ⟨_, rfl, ?_⟩; have n0_ := Aside0.mk (Kd.R_elder' (rP HO902.out) (Kd.R_base ho0) hb); have n1_ := Aside0.mk (Kd.R_below (rP HO905.out) hb); have n2_ := Aside0.mk (Kd.R_lower (Kd.R_new' ho0 (Kd.R_lt (rP HO902.out))) (below_size (bW))); have n3_ := Aside0.mk (blkB BK897.out hb); have n4_ := Aside0.mk (below_step (bW) hb); clear HO902; clear HO905; clear BK897; clear HB; have HO902 := n0_; have HO905 := n1_; have HO910 := n2_; have BK897 := n3_; have HB := n4_; clear n0_ n1_ n2_ n3_ n4_; (try clear hb); (try clear hb2); (try clear hk); (try clear hi); (try clear ho0)) | ((with_reducible refine gate_dst (N := 8) rfl ?_); refine boxS (N := 8) (cs := #[.int .i64 0, .slice none 0 0]) (t := 29) ?_; intro gb911 hg w24 hbox hb; have n0_ := Aside0.mk (Kd.R_below (rP HO902.out) hb); have n1_ := Aside0.mk (Kd.R_below (rP HO905.out) hb); have n2_ := Aside0.mk (Kd.R_below (rP HO910.out) hb); have n3_ := Aside0.mk (blkB BK897.out hb); have n4_ := Aside0.mk (below_step (bW) hb); have n5_ := Aside0.mk (hbox); have n6_ := geW (w := w) hg; have n7_ := geW (w := w) hg; have n8_ := Aside0.mk ((by rw [hg]; exact Nat.ne_of_lt (blk_lt (g := gb897) (o := .cells #[.int .i64 a0_0, .slice A0_1 l0_1.length c0_1] 24 (0, 0)) (bP BK897.out)) : gb897 ≠ gb911)); have n9_ := Aside0.mk ((by rw [hg]; exact Nat.ne_of_gt (blk_lt (g := gb897) (o := .cells #[.int .i64 a0_0, .slice A0_1 l0_1.length c0_1] 24 (0, 0)) (bP BK897.out)) : gb911 ≠ gb897)); clear HO902; clear HO905; clear HO910; clear BK897; clear HB; have HO902 := n0_; have HO905 := n1_; have HO910 := n2_; have BK897 := n3_; have HB := n4_; have BK911 := n5_; have GW911 := n6_; have GE911 := n7_; have NB897_911 := n8_; have NB911_897 := n9_; clear n0_ n1_ n2_ n3_ n4_ n5_ n6_ n7_ n8_ n9_; clear hb hbox hg; have hnb25 := NB911_897.out; have hnc25 := NB897_911.out; obtain ⟨hcz26_0, hcz26_1⟩ := cells2 BK911.out; obtain ⟨hfz26_0, hfz26_1⟩ := frz2 BK911.out; obtain ⟨Ao27, co27, eo27⟩ := Kd.R_slice HO910.out; subst eo27) | ((with_reducible refine gate_callee (f := 43) rfl ?_); refine goesS (some 36) Tryd.func43 #[.agg #[.int .i64 t907, .slice Ao27 t908.length co27], .string a1] ?_; (with_reducible refine (impl_ParseExpression.calls k t907 _ _ t908 a1 t912 t915 _ ?side1 ?side2 A13.out (tabW HTab.out)).mono ?_); (case side1 => refine (Kd.R_reads' (e := 2) (base := w.heap.size) (ok := fun k_ => (True ∧ some k_ ≠ (.slice Ao20 t900.length co20 : Value).ownBlock)) (n := t908.length) (c := co27) ?_).2.2; exact (by (with_reducible repeat (first | apply Kd.R_alloc | apply Kd.R_drewN | apply Kd.R_drew)); exact (Kd.R_mono (Kd.R_far (p := ⟨gb911, 1, none⟩) (Kd.R_far (p := ⟨gb911, 0, none⟩) (Kd.R_types HO910.out BK911.out (by decide)) (fun _ hk => hk.2) (.int .i64 t907)) (fun _ hk => hk.2) (.slice Ao27 t908.length co27)) (fun _ h_ => h_.1)))); (case side2 => exact (Kd.R_reads' HO910.out).2.1); rintro e w28 ⟨v913, rfl, ho0, hb⟩; refine ⟨_, rfl, ?_⟩; have n0_ := Aside0.mk (Kd.R_below (by (with_reducible repeat (first | apply Kd.R_alloc | apply Kd.R_drewN | apply Kd.R_drew)); exact (Kd.R_mono (Kd.R_far (p := ⟨gb911, 1, none⟩) (Kd.R_far (p := ⟨gb911, 0, none⟩) (Kd.R_types HO902.out BK911.out (by decide)) (fun _ hk => hk.2) (.int .i64 t907)) (fun _ hk => hk.2) (.slice Ao27 t908.length co27)) (fun _ h_ => h_.1))) hb); have n1_ := Aside0.mk (Kd.R_elder' (by (with_reducible repeat (first | apply Kd.R_alloc | apply Kd.R_drewN | apply Kd.R_drew)); exact (Kd.R_mono (Kd.R_far (p := ⟨gb911, 1, none⟩) (Kd.R_far (p := ⟨gb911, 0, none⟩) (Kd.R_types HO905.out BK911.out (by decide)) (fun _ hk => hk.2) (.int .i64 t907)) (fun _ hk => hk.2) (.slice Ao27 t908.length co27)) (fun _ h_ => h_.1))) (Kd.R_base ho0) hb); have n2_ := Aside0.mk (Kd.R_below (by (with_reducible repeat (first | apply Kd.R_alloc | apply Kd.R_drewN | apply Kd.R_drew)); exact (Kd.R_mono (Kd.R_far (p := ⟨gb911, 1, none⟩) (Kd.R_far (p := ⟨gb911, 0, none⟩) (Kd.R_types HO910.out BK911.out (by decide)) (fun _ hk => hk.2) (.int .i64 t907)) (fun _ hk => hk.2) (.slice Ao27 t908.length co27)) (fun _ h_ => h_.1))) hb); have n3_ := Aside0.mk (Kd.R_lower (Kd.R_new' ho0 (Kd.R_lt (by (with_reducible repeat (first | apply Kd.R_alloc | apply Kd.R_drewN | apply Kd.R_drew)); exact (Kd.R_mono (Kd.R_far (p := ⟨gb911, 1, none⟩) (Kd.R_far (p := ⟨gb911, 0, none⟩) (Kd.R_types HO905.out BK911.out (by decide)) (fun _ hk => hk.2) (.int .i64 t907)) (fun _ hk => hk.2) (.slice Ao27 t908.length co27)) (fun _ h_ => h_.1))))) (below_size (bW))); have n4_ := Aside0.mk (blk_below (g := gb897) (o := .cells #[.int .i64 a0_0, .slice A0_1 l0_1.length c0_1] 24 (0, 0)) (by (with_reducible repeat (first | refine blk_drewN ?_ _ | refine blk_drew ?_ | refine blk_alloc ?_ _)); refine blk_far ?_ NB897_911.out _; (with_reducible repeat (first | refine blk_drewN ?_ _ | refine blk_drew ?_ | refine blk_alloc ?_ _)); refine blk_far ?_ NB897_911.out _; exact bP BK897.out) hb); have n5_ := Aside0.mk (blk_below (g := gb911) (o := .cells #[.int .i64 t907, .slice Ao27 t908.length co27] 29 (0, 0)) (by (with_reducible repeat (first | refine blk_drewN ?_ _ | refine blk_drew ?_ | refine blk_alloc ?_ _)); refine blk_put (cs := #[.int .i64 t907, .slice none 0 0]) ?_ 1 _ rfl; (with_reducible repeat (first | refine blk_drewN ?_ _ | refine blk_drew ?_ | refine blk_alloc ?_ _)); refine blk_put (cs := #[.int .i64 0, .slice none 0 0]) ?_ 0 _ rfl; exact bP BK911.out) hb); have n6_ := Aside0.mk (below_step (bW) hb); clear HO902; clear HO905; clear HO910; clear BK897; clear BK911; clear HB; have HO902 := n0_; have HO905 := n1_; have HO910 := n2_; have HO914 := n3_; have BK897 := n4_; have BK911 := n5_; have HB := n6_; clear n0_ n1_ n2_ n3_ n4_ n5_ n6_; (try clear hb); (try clear hb2); (try clear hk); (try clear hi); (try clear ho0)))
   (try simp only [Act.put, List.setIfInBounds_toArray, List.set_cons_zero, List.set_cons_succ])
   go_cut [47] (fun v47 wc => ∃ (kq : Nat) (x47_13 : Bool), v47 = .bool x47_13 ∧ Aside0 (laws_FnExactParseExpression.j0 kq a1 t903 t906 t912 t915 x47_13 a0_0 l0_1 t907 t908 = some r) ∧ Aside0 (kq ≤ k) ∧ Aside0 (Kd.R k84 84 wc w.heap.size (fun k_ => some k_ ≠ (v913 : Value).ownBlock) v904 t903) ∧ Aside0 (Kd.R k84 84 wc w.heap.size (fun k_ => some k_ ≠ (v904 : Value).ownBlock) v913 t912) ∧ Aside0 (Kd.R (Kd.int .i64) 2 wc w.heap.size (fun _ => True) (.slice Ao27 t908.length co27) t908) ∧ Aside0 (wc.heap[gb897]? = some (.cells #[.int .i64 a0_0, (.slice A0_1 l0_1.length c0_1)] 24 (0, 0))) ∧ Aside0 (wc.heap[gb911]? = some (.cells #[.int .i64 t907, (.slice Ao27 t908.length co27)] 29 (0, 0))) ∧ Aside0 (Below w.heap.size w wc))
   case first =>
    have H := HC14.out
    clear HC14
    replace H := Option.bind_eq_some_iff.mp H
    obtain ⟨t916, A290, H⟩ := H
    replace H : (if t916 = true then (laws_FnExactParseExpression.j0 k a1 t903 t906 t912 t915 (t915 != t906) a0_0 l0_1 t907 t908) else (laws_FnExactParseExpression.j0 k a1 t903 t906 t912 t915 true a0_0 l0_1 t907 t908)) = some r := H
    have A29 := Aside0.mk A290
    clear A290
    by_cases c30 : t916 = true
    ·subst c30
     have H1 : (laws_FnExactParseExpression.j0 k a1 t903 t906 t912 t915 (t915 != t906) a0_0 l0_1 t907 t908) = some r := by rw [if_pos rfl] at H; exact H
     clear H
     have H := H1
     clear H1
     have H' := Aside0.mk H
     clear H
     obtain ⟨Ao31, co31, eo31⟩ := Kd.R_slice HO914.out
     subst eo31
     obtain ⟨Ao32, co32, eo32⟩ := Kd.R_slice HO905.out
     subst eo32
     go_wp2_with (first | ((with_reducible refine gate_callee (f := 24) rfl ?_); refine goesS (some 41) Tryd.func24 #[.slice Ao31 t912.length co31, .slice Ao32 t903.length co32] ?_; (with_reducible refine (laws_eqTermS.calls k _ _ t912 _ _ t903 true _ ?side1 ?side2 ?side3 ?side4 A29.out).mono ?_); (case side1 => exact cP ((Kd.R_reads' HO914.out).2.2)); (case side2 => exact (Kd.R_reads' HO914.out).2.1); (case side3 => exact cP ((Kd.R_reads' HO905.out).2.2)); (case side4 => exact (Kd.R_reads' HO905.out).2.1); rintro e w33 ⟨rfl, hb⟩; refine ⟨_, rfl, ?_⟩; have n0_ := Aside0.mk (Kd.R_below (rP HO902.out) hb); have n1_ := Aside0.mk (Kd.R_below (rP HO905.out) hb); have n2_ := Aside0.mk (Kd.R_below (rP HO910.out) hb); have n3_ := Aside0.mk (Kd.R_below (rP HO914.out) hb); have n4_ := Aside0.mk (blkB BK897.out hb); have n5_ := Aside0.mk (blkB BK911.out hb); have n6_ := Aside0.mk (below_step (bW) hb); clear HO902; clear HO905; clear HO910; clear HO914; clear BK897; clear BK911; clear HB; have HO902 := n0_; have HO905 := n1_; have HO910 := n2_; have HO914 := n3_; have BK897 := n4_; have BK911 := n5_; have HB := n6_; clear n0_ n1_ n2_ n3_ n4_ n5_ n6_; (try clear hb); (try clear hb2); (try clear hk); (try clear hi)))
     go_meet
     case rel => exact ⟨_, ((t915 != t906)), (eW), H', ⟨by first | omega | exact Nat.le_refl _⟩, ⟨by (with_reducible repeat (first | apply Kd.R_alloc | apply Kd.R_drewN | apply Kd.R_drew)); exact Kd.R_mono HO905.out (fun _ hk => hk.2)⟩, ⟨by (with_reducible repeat (first | apply Kd.R_alloc | apply Kd.R_drewN | apply Kd.R_drew)); exact Kd.R_mono HO914.out (fun _ hk => hk.2)⟩, ⟨by (with_reducible repeat (first | apply Kd.R_alloc | apply Kd.R_drewN | apply Kd.R_drew)); exact Kd.R_mono HO910.out (fun _ hk => trivial)⟩, ⟨(bP BK897.out)⟩, ⟨(bP BK911.out)⟩, ⟨bW⟩⟩
    ·replace c30 := Bool.eq_false_iff.mpr c30
     subst c30
     have H1 : (laws_FnExactParseExpression.j0 k a1 t903 t906 t912 t915 true a0_0 l0_1 t907 t908) = some r := by rw [if_neg (show ¬ (false = true) by decide)] at H; exact H
     clear H
     have H := H1
     clear H1
     have H' := Aside0.mk H
     clear H
     obtain ⟨Ao34, co34, eo34⟩ := Kd.R_slice HO914.out
     subst eo34
     obtain ⟨Ao35, co35, eo35⟩ := Kd.R_slice HO905.out
     subst eo35
     go_wp2_with (first | ((with_reducible refine gate_callee (f := 24) rfl ?_); refine goesS (some 41) Tryd.func24 #[.slice Ao34 t912.length co34, .slice Ao35 t903.length co35] ?_; (with_reducible refine (laws_eqTermS.calls k _ _ t912 _ _ t903 false _ ?side1 ?side2 ?side3 ?side4 A29.out).mono ?_); (case side1 => exact cP ((Kd.R_reads' HO914.out).2.2)); (case side2 => exact (Kd.R_reads' HO914.out).2.1); (case side3 => exact cP ((Kd.R_reads' HO905.out).2.2)); (case side4 => exact (Kd.R_reads' HO905.out).2.1); rintro e w36 ⟨rfl, hb⟩; refine ⟨_, rfl, ?_⟩; have n0_ := Aside0.mk (Kd.R_below (rP HO902.out) hb); have n1_ := Aside0.mk (Kd.R_below (rP HO905.out) hb); have n2_ := Aside0.mk (Kd.R_below (rP HO910.out) hb); have n3_ := Aside0.mk (Kd.R_below (rP HO914.out) hb); have n4_ := Aside0.mk (blkB BK897.out hb); have n5_ := Aside0.mk (blkB BK911.out hb); have n6_ := Aside0.mk (below_step (bW) hb); clear HO902; clear HO905; clear HO910; clear HO914; clear BK897; clear BK911; clear HB; have HO902 := n0_; have HO905 := n1_; have HO910 := n2_; have HO914 := n3_; have BK897 := n4_; have BK911 := n5_; have HB := n6_; clear n0_ n1_ n2_ n3_ n4_ n5_ n6_; (try clear hb); (try clear hb2); (try clear hk); (try clear hi)))
     go_meet
     case rel => exact ⟨_, (true), (eW), H', ⟨by first | omega | exact Nat.le_refl _⟩, ⟨by (with_reducible repeat (first | apply Kd.R_alloc | apply Kd.R_drewN | apply Kd.R_drew)); exact Kd.R_mono HO905.out (fun _ hk => hk.2)⟩, ⟨by (with_reducible repeat (first | apply Kd.R_alloc | apply Kd.R_drewN | apply Kd.R_drew)); exact Kd.R_mono HO914.out (fun _ hk => hk.2)⟩, ⟨by (with_reducible repeat (first | apply Kd.R_alloc | apply Kd.R_drewN | apply Kd.R_drew)); exact Kd.R_mono HO910.out (fun _ hk => trivial)⟩, ⟨(bP BK897.out)⟩, ⟨(bP BK911.out)⟩, ⟨bW⟩⟩
   case rest =>
    clear HC14
    try clear c1
    try clear c2
    try clear p2
    try clear c3
    try clear c3b0
    try clear c3b1
    try clear c4
    try clear c6
    try clear c6b0
    try clear c8
    try clear c12
    try clear c15
    try clear c24
    try clear c25
    try clear c30
    try clear hcz16_0
    try clear hcz16_1
    try clear hcz18_0
    try clear hcz18_1
    try clear hcz22_0
    try clear hcz22_1
    try clear hcz26_0
    try clear hcz26_1
    try clear hcz8_0
    try clear hcz8_1
    try clear hfz16_0
    try clear hfz16_1
    try clear hfz18_0
    try clear hfz18_1
    try clear hfz22_0
    try clear hfz22_1
    try clear hfz26_0
    try clear hfz26_1
    try clear hfz8_0
    try clear hfz8_1
    obtain ⟨kq, x47_13, rfl, HA, HJ13, HO_6, HO_9, HO_912001, BK897, BK911, HB⟩ := hcut
    cases kq with
    | zero => exact absurd HA.out (by simp [laws_FnExactParseExpression.j0])
    | succ kj13 =>
     have H := HA.out
     clear HA
     simp only [laws_FnExactParseExpression.j0] at H
     by_cases c37 : x47_13 = true
     ·subst c37
      have H1 : (some false) = some r := by rw [if_pos rfl] at H; exact H
      clear H
      have H := H1
      clear H1
      exact absurd (Option.some.inj H) (by rw [HTr_.out]; decide)
     ·replace c37 := Bool.eq_false_iff.mpr c37
      subst c37
      have H1 : ((laws_toAlphabet.f kj13 a0_0 l0_1).bind fun bt917 => ((laws_eqAlphabet.f kj13 t907 t908 bt917.1 bt917.2).bind fun t921 => (if t921 = true then ((laws_markAlphabet.f kj13 t907 t908 1).bind fun bt922 => (if bt922.1 < 0 then (laws_FnExactParseExpression.j1 kj13 a1 t903 t906 t912 true a0_0 l0_1) else ((laws_eqTermS.f kj13 t912 t903).bind fun t924 => (if t924 = true then (laws_FnExactParseExpression.j1 kj13 a1 t903 t906 t912 (t915 != t906) a0_0 l0_1) else (laws_FnExactParseExpression.j1 kj13 a1 t903 t906 t912 true a0_0 l0_1))))) else (some false)))) = some r := by rw [if_neg (show ¬ (false = true) by decide)] at H; exact H
      clear H
      have H := H1
      clear H1
      replace H := Option.bind_eq_some_iff.mp H
      obtain ⟨⟨t917, t918⟩, A380, H⟩ := H
      replace H : ((laws_eqAlphabet.f kj13 t907 t908 t917 t918).bind fun t921 => (if t921 = true then ((laws_markAlphabet.f kj13 t907 t908 1).bind fun bt922 => (if bt922.1 < 0 then (laws_FnExactParseExpression.j1 kj13 a1 t903 t906 t912 true a0_0 l0_1) else ((laws_eqTermS.f kj13 t912 t903).bind fun t924 => (if t924 = true then (laws_FnExactParseExpression.j1 kj13 a1 t903 t906 t912 (t915 != t906) a0_0 l0_1) else (laws_FnExactParseExpression.j1 kj13 a1 t903 t906 t912 true a0_0 l0_1))))) else (some false))) = some r := H
      have A38 := Aside0.mk A380
      clear A380
      replace H := Option.bind_eq_some_iff.mp H
      obtain ⟨t921, A390, H⟩ := H
      replace H : (if t921 = true then ((laws_markAlphabet.f kj13 t907 t908 1).bind fun bt922 => (if bt922.1 < 0 then (laws_FnExactParseExpression.j1 kj13 a1 t903 t906 t912 true a0_0 l0_1) else ((laws_eqTermS.f kj13 t912 t903).bind fun t924 => (if t924 = true then (laws_FnExactParseExpression.j1 kj13 a1 t903 t906 t912 (t915 != t906) a0_0 l0_1) else (laws_FnExactParseExpression.j1 kj13 a1 t903 t906 t912 true a0_0 l0_1))))) else (some false)) = some r := H
      have A39 := Aside0.mk A390
      clear A390
      by_cases c40 : t921 = true
      ·subst c40
       have H1 : ((laws_markAlphabet.f kj13 t907 t908 1).bind fun bt922 => (if bt922.1 < 0 then (laws_FnExactParseExpression.j1 kj13 a1 t903 t906 t912 true a0_0 l0_1) else ((laws_eqTermS.f kj13 t912 t903).bind fun t924 => (if t924 = true then (laws_FnExactParseExpression.j1 kj13 a1 t903 t906 t912 (t915 != t906) a0_0 l0_1) else (laws_FnExactParseExpression.j1 kj13 a1 t903 t906 t912 true a0_0 l0_1))))) = some r := by rw [if_pos rfl] at H; exact H
       clear H
       have H := H1
       clear H1
       replace H := Option.bind_eq_some_iff.mp H
       obtain ⟨⟨t922, t923⟩, A410, H⟩ := H
       replace H : (if t922 < 0 then (laws_FnExactParseExpression.j1 kj13 a1 t903 t906 t912 true a0_0 l0_1) else ((laws_eqTermS.f kj13 t912 t903).bind fun t924 => (if t924 = true then (laws_FnExactParseExpression.j1 kj13 a1 t903 t906 t912 (t915 != t906) a0_0 l0_1) else (laws_FnExactParseExpression.j1 kj13 a1 t903 t906 t912 true a0_0 l0_1)))) = some r := H
       have A41 := Aside0.mk A410
       clear A410
       have HC42 := Aside0.mk H
       clear H
       try go_wp2
       have n0_ := Aside0.mk (Kd.R_drew HO_6.out)
       have n1_ := Aside0.mk (Kd.R_drew HO_9.out)
       have n2_ := Aside0.mk (Kd.R_drew HO_912001.out)
       have n3_ := Aside0.mk (blk_drew BK897.out)
       have n4_ := Aside0.mk (blk_drew BK911.out)
       have n5_ := Aside0.mk (below_drew1 HB.out)
       clear HO_6
       clear HO_9
       clear HO_912001
       clear BK897
       clear BK911
       clear HB
       have HO_6 := n0_
       have HO_9 := n1_
       have HO_912001 := n2_
       have BK897 := n3_
       have BK911 := n4_
       have HB := n5_
       clear n0_ n1_ n2_ n3_ n4_ n5_
       refine start_ (n := 5) (S := fun w' => w'.cell? ⟨gb911, 0, none⟩ = some (.int .i64 t907) ∧ w'.cell? ⟨gb911, 1, none⟩ = some (.slice Ao27 t908.length co27) ∧ w'.cell? ⟨gb897, 0, none⟩ = some (.int .i64 a0_0) ∧ w'.cell? ⟨gb897, 1, none⟩ = some (.slice A0_1 l0_1.length c0_1)) (ds := []) #[false, false, false, false, false] (by kernel_rfl) rfl rfl ⟨(blk_cell BK911.out 0).trans rfl, (blk_cell BK911.out 1).trans rfl, (blk_cell BK897.out 0).trans rfl, (blk_cell BK897.out 1).trans rfl⟩ (fun hHeld => ?_)
       generalize wc.drew = w43 at HO_6 HO_9 HO_912001 BK897 BK911 HB hHeld ⊢
       refine takeS (i := 0) (N := some 48) (by kernel_rfl) hHeld ?_
       refine takeS (i := 1) (N := some 49) (by kernel_rfl) hHeld ?_
       refine one_ (i := 2) (N := some 50) #[true, true, true, false, false] rfl rfl (by kernel_rfl) (by decide) (fun K hK => ?_)
       refine goes_ Tryd.func15 (by kernel_rfl) rfl #[.agg #[.int .i64 a0_0, .slice A0_1 l0_1.length c0_1]] (by rfl) rfl rfl (by (try simp only [List.map_toArray, List.map_cons, List.map_nil]); first | done | rfl | (simp only [List.length_drop, List.length_take]; rfl)) ?_
       with_reducible refine (laws_toAlphabet.calls kj13 a0_0 _ _ l0_1 t917 t918 _ ?side1 ?side2 A38.out).mono ?_
       (case side1 => exact cP (Kd.C_below HR0_1.out HB.out))
       (case side2 => exact HC0_1.out)
       rintro e w44 ⟨v919, rfl, ho0, hb⟩
       refine ⟨_, rfl, ?_⟩
       have n0_ := Aside0.mk (Kd.R_below (rP HO_6.out) hb)
       have n1_ := Aside0.mk (Kd.R_below (rP HO_9.out) hb)
       have n2_ := Aside0.mk (Kd.R_elder' (rP HO_912001.out) (Kd.R_base ho0) hb)
       have n3_ := Aside0.mk (Kd.R_lower (Kd.R_new' ho0 (Kd.R_lt (rP HO_912001.out))) (below_size (bW)))
       have n4_ := Aside0.mk (blkB BK897.out hb)
       have n5_ := Aside0.mk (blkB BK911.out hb)
       have n6_ := Aside0.mk (below_step (bW) hb)
       clear HO_6
       clear HO_9
       clear HO_912001
       clear BK897
       clear BK911
       clear HB
       have HO_6 := n0_
       have HO_9 := n1_
       have HO_912001 := n2_
       have HO920 := n3_
       have BK897 := n4_
       have BK911 := n5_
       have HB := n6_
       clear n0_ n1_ n2_ n3_ n4_ n5_ n6_
       (try clear hb)
       (try clear hb2)
       (try clear hk)
       (try clear hi)
       (try clear ho0)
       obtain ⟨Ao45, co45, eo45⟩ := Kd.R_slice HO920.out
       (first | subst eo45 | (injection eo45 with f1_ f2_ f3_; have f4_ := f1_.symm; have f5_ := f3_.symm; clear f1_ f2_ f3_; subst f4_; subst f5_))
       refine hK.out _ _ ⟨(blk_cell BK911.out 0).trans rfl, (blk_cell BK911.out 1).trans rfl, (blk_cell BK897.out 0).trans rfl, (blk_cell BK897.out 1).trans rfl⟩ (fun hHeld => ?_)
       clear hK K
       refine norm_ (a' := ?_) ?_ ?_
       rotate_left
       ·show Act.put _ (some 50) _ = _
        simp only [Act.put, List.setIfInBounds_toArray, List.set_cons_zero, List.set_cons_succ, i64_w, i32_w]
        rfl
       refine one_ (i := 3) (N := some 51) #[true, true, true, true, false] rfl rfl (by kernel_rfl) (by decide) (fun K hK => ?_)
       refine goes_ Tryd.func18 (by kernel_rfl) rfl #[.agg #[.int .i64 t907, .slice Ao27 t908.length co27], .agg #[.int .i64 t917, .slice Ao45 t918.length co45]] (by rfl) rfl rfl (by (try simp only [List.map_toArray, List.map_cons, List.map_nil]); first | done | rfl | (simp only [List.length_drop, List.length_take]; rfl)) ?_
       with_reducible refine (laws_eqAlphabet.calls kj13 t907 _ _ t908 t917 _ _ t918 true _ ?side1 ?side2 ?side3 ?side4 A39.out).mono ?_
       (case side1 => exact cP ((Kd.R_reads' HO_912001.out).2.2))
       (case side2 => exact (Kd.R_reads' HO_912001.out).2.1)
       (case side3 => exact cP ((Kd.R_reads' HO920.out).2.2))
       (case side4 => exact (Kd.R_reads' HO920.out).2.1)
       rintro e w46 ⟨rfl, hb⟩
       refine ⟨_, rfl, ?_⟩
       have n0_ := Aside0.mk (Kd.R_below (rP HO_6.out) hb)
       have n1_ := Aside0.mk (Kd.R_below (rP HO_9.out) hb)
       have n2_ := Aside0.mk (Kd.R_below (rP HO_912001.out) hb)
       have n3_ := Aside0.mk (Kd.R_below (rP HO920.out) hb)
       have n4_ := Aside0.mk (blkB BK897.out hb)
       have n5_ := Aside0.mk (blkB BK911.out hb)
       have n6_ := Aside0.mk (below_step (bW) hb)
       clear HO_6
       clear HO_9
       clear HO_912001
       clear HO920
       clear BK897
       clear BK911
       clear HB
       have HO_6 := n0_
       have HO_9 := n1_
       have HO_912001 := n2_
       have HO920 := n3_
       have BK897 := n4_
       have BK911 := n5_
       have HB := n6_
       clear n0_ n1_ n2_ n3_ n4_ n5_ n6_
       (try clear hb)
       (try clear hb2)
       (try clear hk)
       (try clear hi)
       refine hK.out _ _ ⟨(blk_cell BK911.out 0).trans rfl, (blk_cell BK911.out 1).trans rfl, (blk_cell BK897.out 0).trans rfl, (blk_cell BK897.out 1).trans rfl⟩ (fun hHeld => ?_)
       clear hK K
       refine norm_ (a' := ?_) ?_ ?_
       rotate_left
       ·show Act.put _ (some 51) _ = _
        simp only [Act.put, List.setIfInBounds_toArray, List.set_cons_zero, List.set_cons_succ, i64_w, i32_w]
        rfl
       refine pureS (i := 4) (N := some 52) (by kernel_rfl) ?_
       refine done_ (by kernel_rfl) ?_
       have hnb47 := NB911_897.out
       have hnc47 := NB897_911.out
       have hcz48_0 : w46.cell? ⟨gb911, 0, none⟩ = some (.int .i64 t907) := (blk_cell BK911.out 0).trans rfl
       have hcz48_1 : w46.cell? ⟨gb911, 1, none⟩ = some (.slice Ao27 t908.length co27) := (blk_cell BK911.out 1).trans rfl
       have hfz48_0 := blk_frozen BK911.out 0
       have hfz48_1 := blk_frozen BK911.out 1
       go_upto_region 16 with (first | ((with_reducible refine gate_callee (f := 33) rfl ?_); refine goesS (some 55) Tryd.func33 #[.agg #[.int .i64 t907, .slice Ao27 t908.length co27], .int .i64 1] ?_; (with_reducible refine (laws_markAlphabet.calls kj13 t907 (fun k_ => some k_ = (.slice Ao27 t908.length co27 : Value).ownBlock) (.slice Ao27 t908.length co27) t908 1 t922 t923 w _ ?side1 ?side2 A41.out).mono ?_); (case side1 => repeat (first | (with_reducible first | exact HB.out | apply below_alloc | apply pw_below_drewN | apply below_drew1 | refine below_set ?_ GE897.out | refine below_set ?_ GE911.out) | exact HB.out)); (case side2 => exact Kd.R_tight rfl HO_912001.out); rintro e w49 ⟨rfl, hy0, hb, hkp⟩; refine ⟨_, rfl, ?_⟩; have n0_ := Aside0.mk (Kd.R_mono (ok' := fun k_ => some k_ ≠ (v913 : Value).ownBlock) (Kd.R_keptB ((Kd.R_apart' HO_6.out (Kd.R_typed HO_912001.out) (by decide))) hkp (fun k_ hk_ hs_ => (hk_.2) hs_)) (fun k_ hk_ => hk_.1.1)); have n1_ := Aside0.mk (Kd.R_mono (ok' := fun k_ => some k_ ≠ (v904 : Value).ownBlock) (Kd.R_keptB ((Kd.R_apart' HO_9.out (Kd.R_typed HO_912001.out) (by decide))) hkp (fun k_ hk_ hs_ => (hk_.2) hs_)) (fun k_ hk_ => hk_.1.1)); have n2_ := Aside0.mk (Kd.R_reok rfl hy0 (fun k_ e_ => HO_912001.out.1 k_ e_)); have n3_ := Aside0.mk (blk_kept (bP BK897.out) hkp (fun hs_ => (fun e_ => (Kd.R_ne HO_912001.out BK897.out (by decide)) e_) hs_)); have n4_ := Aside0.mk (blk_kept (bP BK911.out) hkp (fun hs_ => (fun e_ => (Kd.R_ne HO_912001.out BK911.out (by decide)) e_) hs_)); have n5_ := Aside0.mk (Kd.R_mono (ok' := fun k_ => some k_ ≠ (.slice Ao27 t908.length co27 : Value).ownBlock) (Kd.R_keptB (HO920.out) hkp (fun k_ hk_ hs_ => (hk_.2) hs_)) (fun k_ hk_ => hk_.1.2)); have n6_ := Aside0.mk (hb); clear HO_6; clear HO_9; clear HO_912001; clear BK897; clear BK911; clear HO920; clear HB; have HO_6 := n0_; have HO_9 := n1_; have HO_912001 := n2_; have BK897 := n3_; have BK911 := n4_; have HO920 := n5_; have HB := n6_; clear n0_ n1_ n2_ n3_ n4_ n5_ n6_; (try clear hb); (try clear hkp); (try clear hy0)))
       (try simp only [Act.put, List.setIfInBounds_toArray, List.set_cons_zero, List.set_cons_succ])
       go_cut [68] (fun v68 wc => ∃ (kq : Nat) (x68_41 : Bool), v68 = .bool x68_41 ∧ Aside0 (laws_FnExactParseExpression.j1 kq a1 t903 t906 t912 x68_41 a0_0 l0_1 = some r) ∧ Aside0 (kq ≤ kj13) ∧ Aside0 (Kd.R k84 84 wc w.heap.size (fun k_ => some k_ ≠ (v913 : Value).ownBlock) v904 t903) ∧ Aside0 (Kd.R k84 84 wc w.heap.size (fun k_ => some k_ ≠ (v904 : Value).ownBlock) v913 t912) ∧ Aside0 (Kd.R (Kd.int .i64) 2 wc w.heap.size (fun _ => True) (.slice Ao27 t908.length co27) t923) ∧ Aside0 (wc.heap[gb897]? = some (.cells #[.int .i64 a0_0, (.slice A0_1 l0_1.length c0_1)] 24 (0, 0))) ∧ Aside0 (wc.heap[gb911]? = some (.cells #[.int .i64 t907, (.slice Ao27 t908.length co27)] 29 (0, 0))) ∧ Aside0 (Below w.heap.size w wc))
       case first =>
        have H := HC42.out
        clear HC42
        by_cases c50 : t922 < 0
        ·rw [if_pos c50] at H
         have c50b0 : decide (t922 < 0) = true := decide_eq_true c50
         clear c50
         (first | rw [c50b0] | (simp only [i64_w, i32_w]; rw [c50b0]) | skip)
         have H' := Aside0.mk H
         clear H
         go_wp2
         go_meet
         case rel => exact ⟨_, (true), (eW), H', ⟨by have := HJ13.out; first | omega | exact Nat.le_refl _⟩, ⟨(rP HO_6.out)⟩, ⟨(rP HO_9.out)⟩, ⟨by (with_reducible repeat (first | apply Kd.R_alloc | apply Kd.R_drewN | apply Kd.R_drew)); exact Kd.R_mono HO_912001.out (fun _ hk => trivial)⟩, ⟨(bP BK897.out)⟩, ⟨(bP BK911.out)⟩, ⟨bW⟩⟩
        ·rw [if_neg c50] at H
         have c50b0 : decide (t922 < 0) = false := decide_eq_false c50
         clear c50
         (first | rw [c50b0] | (simp only [i64_w, i32_w]; rw [c50b0]) | skip)
         replace H := Option.bind_eq_some_iff.mp H
         obtain ⟨t924, A510, H⟩ := H
         replace H : (if t924 = true then (laws_FnExactParseExpression.j1 kj13 a1 t903 t906 t912 (t915 != t906) a0_0 l0_1) else (laws_FnExactParseExpression.j1 kj13 a1 t903 t906 t912 true a0_0 l0_1)) = some r := H
         have A51 := Aside0.mk A510
         clear A510
         by_cases c52 : t924 = true
         ·subst c52
          have H1 : (laws_FnExactParseExpression.j1 kj13 a1 t903 t906 t912 (t915 != t906) a0_0 l0_1) = some r := by rw [if_pos rfl] at H; exact H
          clear H
          have H := H1
          clear H1
          have H' := Aside0.mk H
          clear H
          obtain ⟨Ao53, co53, eo53⟩ := Kd.R_slice HO_9.out
          subst eo53
          obtain ⟨Ao54, co54, eo54⟩ := Kd.R_slice HO_6.out
          subst eo54
          go_wp2_with (first | (go_at_call 24; (with_reducible refine (laws_eqTermS.calls kj13 _ _ t912 _ _ t903 true _ ?side1 ?side2 ?side3 ?side4 A51.out).mono ?_); (case side1 => exact cP ((Kd.R_reads' HO_9.out).2.2)); (case side2 => exact (Kd.R_reads' HO_9.out).2.1); (case side3 => exact cP ((Kd.R_reads' HO_6.out).2.2)); (case side4 => exact (Kd.R_reads' HO_6.out).2.1); rintro e w55 ⟨rfl, hb⟩; have n0_ := Aside0.mk (Kd.R_below (rP HO_6.out) hb); have n1_ := Aside0.mk (Kd.R_below (rP HO_9.out) hb); have n2_ := Aside0.mk (Kd.R_below (rP HO_912001.out) hb); have n3_ := Aside0.mk (Kd.R_below (rP HO920.out) hb); have n4_ := Aside0.mk (blkB BK897.out hb); have n5_ := Aside0.mk (blkB BK911.out hb); have n6_ := Aside0.mk (below_step (bW) hb); clear HO_6; clear HO_9; clear HO_912001; clear HO920; clear BK897; clear BK911; clear HB; have HO_6 := n0_; have HO_9 := n1_; have HO_912001 := n2_; have HO920 := n3_; have BK897 := n4_; have BK911 := n5_; have HB := n6_; clear n0_ n1_ n2_ n3_ n4_ n5_ n6_; (try clear hb); (try clear hb2); (try clear hk); (try clear hi)))
          go_meet
          case rel => exact ⟨_, ((t915 != t906)), (eW), H', ⟨by have := HJ13.out; first | omega | exact Nat.le_refl _⟩, ⟨(rP HO_6.out)⟩, ⟨(rP HO_9.out)⟩, ⟨by (with_reducible repeat (first | apply Kd.R_alloc | apply Kd.R_drewN | apply Kd.R_drew)); exact Kd.R_mono HO_912001.out (fun _ hk => trivial)⟩, ⟨(bP BK897.out)⟩, ⟨(bP BK911.out)⟩, ⟨bW⟩⟩
         ·replace c52 := Bool.eq_false_iff.mpr c52
          subst c52
          have H1 : (laws_FnExactParseExpression.j1 kj13 a1 t903 t906 t912 true a0_0 l0_1) = some r := by rw [if_neg (show ¬ (false = true) by decide)] at H; exact H
          clear H
          have H := H1
          clear H1
          have H' := Aside0.mk H
          clear H
          obtain ⟨Ao56, co56, eo56⟩ := Kd.R_slice HO_9.out
          subst eo56
          obtain ⟨Ao57, co57, eo57⟩ := Kd.R_slice HO_6.out
          subst eo57
          go_wp2_with (first | (go_at_call 24; (with_reducible refine (laws_eqTermS.calls kj13 _ _ t912 _ _ t903 false _ ?side1 ?side2 ?side3 ?side4 A51.out).mono ?_); (case side1 => exact cP ((Kd.R_reads' HO_9.out).2.2)); (case side2 => exact (Kd.R_reads' HO_9.out).2.1); (case side3 => exact cP ((Kd.R_reads' HO_6.out).2.2)); (case side4 => exact (Kd.R_reads' HO_6.out).2.1); rintro e w58 ⟨rfl, hb⟩; have n0_ := Aside0.mk (Kd.R_below (rP HO_6.out) hb); have n1_ := Aside0.mk (Kd.R_below (rP HO_9.out) hb); have n2_ := Aside0.mk (Kd.R_below (rP HO_912001.out) hb); have n3_ := Aside0.mk (Kd.R_below (rP HO920.out) hb); have n4_ := Aside0.mk (blkB BK897.out hb); have n5_ := Aside0.mk (blkB BK911.out hb); have n6_ := Aside0.mk (below_step (bW) hb); clear HO_6; clear HO_9; clear HO_912001; clear HO920; clear BK897; clear BK911; clear HB; have HO_6 := n0_; have HO_9 := n1_; have HO_912001 := n2_; have HO920 := n3_; have BK897 := n4_; have BK911 := n5_; have HB := n6_; clear n0_ n1_ n2_ n3_ n4_ n5_ n6_; (try clear hb); (try clear hb2); (try clear hk); (try clear hi)))
          go_meet
          case rel => exact ⟨_, (true), (eW), H', ⟨by have := HJ13.out; first | omega | exact Nat.le_refl _⟩, ⟨(rP HO_6.out)⟩, ⟨(rP HO_9.out)⟩, ⟨by (with_reducible repeat (first | apply Kd.R_alloc | apply Kd.R_drewN | apply Kd.R_drew)); exact Kd.R_mono HO_912001.out (fun _ hk => trivial)⟩, ⟨(bP BK897.out)⟩, ⟨(bP BK911.out)⟩, ⟨bW⟩⟩
       case rest =>
        clear HC42
        try clear c1
        try clear c2
        try clear p2
        try clear c3
        try clear c3b0
        try clear c3b1
        try clear c4
        try clear c5
        try clear c6
        try clear c6b0
        try clear c8
        try clear c12
        try clear c15
        try clear c18
        try clear c24
        try clear c25
        try clear c30
        try clear c33
        try clear c37
        try clear c40
        try clear c42
        try clear c43
        try clear c47
        try clear c50
        try clear c50b0
        try clear c52
        try clear hcz16_0
        try clear hcz16_1
        try clear hcz18_0
        try clear hcz18_1
        try clear hcz22_0
        try clear hcz22_1
        try clear hcz26_0
        try clear hcz26_1
        try clear hcz48_0
        try clear hcz48_1
        try clear hcz8_0
        try clear hcz8_1
        try clear hfz16_0
        try clear hfz16_1
        try clear hfz18_0
        try clear hfz18_1
        try clear hfz22_0
        try clear hfz22_1
        try clear hfz26_0
        try clear hfz26_1
        try clear hfz48_0
        try clear hfz48_1
        try clear hfz8_0
        try clear hfz8_1
        try clear p2
        obtain ⟨kq, x68_41, rfl, HA, HJ41, HO_6, HO_9, HO_912001, BK897, BK911, HB⟩ := hcut
        have hl912001_41 := (Kd.R_reads' HO_912001.out).1
        rw [hl912001_41] at HO_912001
        (try simp only [hl912001_41])
        (try simp only [hl912001_41] at BK897)
        (try simp only [hl912001_41] at BK911)
        (try simp only [hl912001_41] at HO_6)
        (try simp only [hl912001_41] at HO_9)
        cases kq with
        | zero => exact absurd HA.out (by simp [laws_FnExactParseExpression.j1])
        | succ kj41 =>
         have H := HA.out
         clear HA
         simp only [laws_FnExactParseExpression.j1] at H
         by_cases c59 : x68_41 = true
         ·subst c59
          have H1 : (some false) = some r := by rw [if_pos rfl] at H; exact H
          clear H
          have H := H1
          clear H1
          exact absurd (Option.some.inj H) (by rw [HTr_.out]; decide)
         ·replace c59 := Bool.eq_false_iff.mpr c59
          subst c59
          have H1 : ((laws_markTermS.f kj41 t912 1).bind fun bt925 => ((laws_heldTermS.f kj41 bt925.2 1).bind fun t927 => (if t927 < 0 then (some false) else (if t927 = bt925.1 then ((laws_toAlphabet.f kj41 a0_0 l0_1).bind fun bt928 => ((impl_ParseExpression.f kj41 bt928.1 bt928.2 a1).bind fun bt932 => ((laws_eqTermS.f kj41 bt932.1 t903).bind fun t936 => (if t936 = true then (laws_FnExactParseExpression.j2 kj41 bt925.2 bt925.1 (bt932.2 != t906)) else (laws_FnExactParseExpression.j2 kj41 bt925.2 bt925.1 true))))) else (some false))))) = some r := by rw [if_neg (show ¬ (false = true) by decide)] at H; exact H
          clear H
          have H := H1
          clear H1
          replace H := Option.bind_eq_some_iff.mp H
          obtain ⟨⟨t925, t926⟩, A600, H⟩ := H
          replace H : ((laws_heldTermS.f kj41 t926 1).bind fun t927 => (if t927 < 0 then (some false) else (if t927 = t925 then ((laws_toAlphabet.f kj41 a0_0 l0_1).bind fun bt928 => ((impl_ParseExpression.f kj41 bt928.1 bt928.2 a1).bind fun bt932 => ((laws_eqTermS.f kj41 bt932.1 t903).bind fun t936 => (if t936 = true then (laws_FnExactParseExpression.j2 kj41 t926 t925 (bt932.2 != t906)) else (laws_FnExactParseExpression.j2 kj41 t926 t925 true))))) else (some false)))) = some r := H
          have A60 := Aside0.mk A600
          clear A600
          replace H := Option.bind_eq_some_iff.mp H
          obtain ⟨t927, A610, H⟩ := H
          replace H : (if t927 < 0 then (some false) else (if t927 = t925 then ((laws_toAlphabet.f kj41 a0_0 l0_1).bind fun bt928 => ((impl_ParseExpression.f kj41 bt928.1 bt928.2 a1).bind fun bt932 => ((laws_eqTermS.f kj41 bt932.1 t903).bind fun t936 => (if t936 = true then (laws_FnExactParseExpression.j2 kj41 t926 t925 (bt932.2 != t906)) else (laws_FnExactParseExpression.j2 kj41 t926 t925 true))))) else (some false))) = some r := H
          have A61 := Aside0.mk A610
          clear A610
          by_cases c62 : t927 < 0
          ·rw [if_pos c62] at H
           have c62b0 : decide (t927 < 0) = true := decide_eq_true c62
           clear c62
           exact absurd (Option.some.inj H) (by rw [HTr_.out]; decide)
          ·rw [if_neg c62] at H
           have c62b0 : decide (t927 < 0) = false := decide_eq_false c62
           clear c62
           by_cases c63 : t927 = t925
           ·rw [if_pos c63] at H
            have c63b0 : (t927 == t925) = true := beq_iff_eq.mpr c63
            have c63b1 : (t927 != t925) = false := bne_eq_false_iff_eq.mpr c63
            clear c63
            replace H := Option.bind_eq_some_iff.mp H
            obtain ⟨⟨t928, t929⟩, A640, H⟩ := H
            replace H : ((impl_ParseExpression.f kj41 t928 t929 a1).bind fun bt932 => ((laws_eqTermS.f kj41 bt932.1 t903).bind fun t936 => (if t936 = true then (laws_FnExactParseExpression.j2 kj41 t926 t925 (bt932.2 != t906)) else (laws_FnExactParseExpression.j2 kj41 t926 t925 true)))) = some r := H
            have A64 := Aside0.mk A640
            clear A640
            replace H := Option.bind_eq_some_iff.mp H
            obtain ⟨⟨t932, t935⟩, A650, H⟩ := H
            replace H : ((laws_eqTermS.f kj41 t932 t903).bind fun t936 => (if t936 = true then (laws_FnExactParseExpression.j2 kj41 t926 t925 (t935 != t906)) else (laws_FnExactParseExpression.j2 kj41 t926 t925 true))) = some r := H
            have A65 := Aside0.mk A650
            clear A650
            have HC66 := Aside0.mk H
            clear H
            obtain ⟨Ao67, co67, eo67⟩ := Kd.R_slice HO_9.out
            subst eo67
            go_upto_region 27 with (first | ((with_reducible refine gate_callee (f := 44) rfl ?_); refine goesS (some 71) Tryd.func44 #[.slice Ao67 t912.length co67, .int .i64 1] ?_; (with_reducible refine (laws_markTermS.calls kj41 (fun k_ => some k_ = (.slice Ao67 t912.length co67 : Value).ownBlock) (.slice Ao67 t912.length co67) t912 1 t925 t926 w _ ?side1 ?side2 A60.out).mono ?_); (case side1 => repeat (first | (with_reducible first | exact HB.out | apply below_alloc | apply pw_below_drewN | apply below_drew1 | refine below_set ?_ GE897.out | refine below_set ?_ GE911.out) | exact HB.out)); (case side2 => exact Kd.R_tight rfl HO_9.out); rintro e w68 ⟨rfl, hy0, hb, hkp⟩; refine ⟨_, rfl, ?_⟩; have n0_ := Aside0.mk (Kd.R_mono (ok' := fun k_ => some k_ ≠ (.slice Ao67 t912.length co67 : Value).ownBlock) (Kd.R_keptB (HO_6.out) hkp (fun k_ hk_ hs_ => (hk_) hs_)) (fun k_ hk_ => hk_.1)); have n1_ := Aside0.mk (Kd.R_reok rfl hy0 (fun k_ e_ => HO_9.out.1 k_ e_)); have n2_ := Aside0.mk (Kd.R_mono (ok' := fun k_ => True) (Kd.R_keptB ((Kd.R_apart' HO_912001.out (Kd.R_typed HO_9.out) (by decide))) hkp (fun k_ hk_ hs_ => (hk_.2) hs_)) (fun k_ hk_ => trivial)); have n3_ := Aside0.mk (blk_kept (bP BK897.out) hkp (fun hs_ => (fun e_ => (Kd.R_ne HO_9.out BK897.out (by decide)) e_) hs_)); have n4_ := Aside0.mk (blk_kept (bP BK911.out) hkp (fun hs_ => (fun e_ => (Kd.R_ne HO_9.out BK911.out (by decide)) e_) hs_)); have n5_ := Aside0.mk (hb); clear HO_6; clear HO_9; clear HO_912001; clear BK897; clear BK911; clear HB; have HO_6 := n0_; have HO_9 := n1_; have HO_912001 := n2_; have BK897 := n3_; have BK911 := n4_; have HB := n5_; clear n0_ n1_ n2_ n3_ n4_ n5_; (try clear hb); (try clear hkp); (try clear hy0)) | ((with_reducible refine gate_callee (f := 45) rfl ?_); refine goesL_ (some 74) rfl rfl Tryd.func45 (by kernel_rfl) rfl #[.slice Ao67 t926.length co67, .int .i64 1] rfl (by (try simp only [List.map_toArray, List.map_cons, List.map_nil]); first | done | (rw [show t926.length = t912.length from (Kd.R_reads' HO_9.out).1.symm] <;> rfl) | rfl | (simp only [List.length_drop, List.length_take]; rfl)) ?_; (with_reducible refine (laws_heldTermS.calls kj41 _ _ t926 1 t927 _ ?side1 ?side2 A61.out).mono ?_); (case side1 => exact cP ((Kd.R_reads' HO_9.out).2.2)); (case side2 => rw [show t926.length = t912.length from (Kd.R_reads' HO_9.out).1.symm]; exact (Kd.R_reads' HO_9.out).2.1); rintro e w' ⟨rfl, ⟨nd, rfl⟩⟩; refine ⟨_, rfl, ?_⟩; have hnb69 := NB897_911.out; have hnc69 := NB911_897.out; obtain ⟨hcz70_0, hcz70_1⟩ := cells2 BK897.out; obtain ⟨hfz70_0, hfz70_1⟩ := frz2 BK897.out) | ((with_reducible refine gate_callee (f := 15) rfl ?_); refine goesS (some 82) Tryd.func15 #[.agg #[.int .i64 a0_0, .slice A0_1 l0_1.length c0_1]] ?_; (with_reducible refine (laws_toAlphabet.calls kj41 a0_0 _ _ l0_1 t928 t929 _ ?side1 ?side2 A64.out).mono ?_); (case side1 => exact cP (Kd.C_below HR0_1.out (bW))); (case side2 => exact HC0_1.out); rintro e w71 ⟨v930, rfl, ho0, hb⟩; refine ⟨_, rfl, ?_⟩; have n0_ := Aside0.mk (Kd.R_below (rP HO_6.out) hb); have n1_ := Aside0.mk (Kd.R_below (rP HO_9.out) hb); have n2_ := Aside0.mk (Kd.R_elder' (rP HO_912001.out) (Kd.R_base ho0) hb); have n3_ := Aside0.mk (Kd.R_lower (Kd.R_new' ho0 (Kd.R_lt (rP HO_912001.out))) (below_size (bW))); have n4_ := Aside0.mk (blkB BK897.out hb); have n5_ := Aside0.mk (blkB BK911.out hb); have n6_ := Aside0.mk (below_step (bW) hb); clear HO_6; clear HO_9; clear HO_912001; clear BK897; clear BK911; clear HB; have HO_6 := n0_; have HO_9 := n1_; have HO_912001 := n2_; have HO931 := n3_; have BK897 := n4_; have BK911 := n5_; have HB := n6_; clear n0_ n1_ n2_ n3_ n4_ n5_ n6_; (try clear hb); (try clear hb2); (try clear hk); (try clear hi); (try clear ho0); obtain ⟨Ao72, co72, eo72⟩ := Kd.R_slice HO931.out; subst eo72) | ((with_reducible refine gate_callee (f := 43) rfl ?_); refine goesS (some 84) Tryd.func43 #[.agg #[.int .i64 t928, .slice Ao72 t929.length co72], .string a1] ?_; (with_reducible refine (impl_ParseExpression.calls kj41 t928 _ _ t929 a1 t932 t935 _ ?side1 ?side2 A65.out (tabW HTab.out)).mono ?_); (case side1 => exact cP ((Kd.R_reads' HO931.out).2.2)); (case side2 => exact (Kd.R_reads' HO931.out).2.1); rintro e w73 ⟨v933, rfl, ho0, hb⟩; refine ⟨_, rfl, ?_⟩; have n0_ := Aside0.mk (Kd.R_elder' (rP HO_6.out) (Kd.R_base ho0) hb); have n1_ := Aside0.mk (Kd.R_elder' (rP HO_9.out) (Kd.R_base ho0) hb); have n2_ := Aside0.mk (Kd.R_below (rP HO_912001.out) hb); have n3_ := Aside0.mk (Kd.R_below (rP HO931.out) hb); have n4_ := Aside0.mk (Kd.R_lower (Kd.R_new' (Kd.R_new' ho0 (Kd.R_lt (rP HO_6.out))) (Kd.R_lt (rP HO_9.out))) (below_size (bW))); have n5_ := Aside0.mk (blkB BK897.out hb); have n6_ := Aside0.mk (blkB BK911.out hb); have n7_ := Aside0.mk (below_step (bW) hb); clear HO_6; clear HO_9; clear HO_912001; clear HO931; clear BK897; clear BK911; clear HB; have HO_6 := n0_; have HO_9 := n1_; have HO_912001 := n2_; have HO931 := n3_; have HO934 := n4_; have BK897 := n5_; have BK911 := n6_; have HB := n7_; clear n0_ n1_ n2_ n3_ n4_ n5_ n6_ n7_; (try clear hb); (try clear hb2); (try clear hk); (try clear hi); (try clear ho0)))
            (try simp only [Act.put, List.setIfInBounds_toArray, List.set_cons_zero, List.set_cons_succ])
            go_cut [95] (fun v95 wc => ∃ (kq : Nat) (x95_65 : Bool), v95 = .bool x95_65 ∧ Aside0 (laws_FnExactParseExpression.j2 kq t926 t925 x95_65 = some r) ∧ Aside0 (kq ≤ kj41) ∧ Aside0 (Kd.R k84 84 wc w.heap.size (fun _ => True) (.slice Ao67 t912.length co67) t926) ∧ Aside0 (Kd.R (Kd.int .i64) 2 wc w.heap.size (fun _ => True) (.slice Ao27 t923.length co27) t923) ∧ Aside0 (wc.heap[gb897]? = some (.cells #[.int .i64 a0_0, (.slice A0_1 l0_1.length c0_1)] 24 (0, 0))) ∧ Aside0 (wc.heap[gb911]? = some (.cells #[.int .i64 t907, (.slice Ao27 t923.length co27)] 29 (0, 0))) ∧ Aside0 (Below w.heap.size w wc))
            case first =>
             have H := HC66.out
             clear HC66
             replace H := Option.bind_eq_some_iff.mp H
             obtain ⟨t936, A740, H⟩ := H
             replace H : (if t936 = true then (laws_FnExactParseExpression.j2 kj41 t926 t925 (t935 != t906)) else (laws_FnExactParseExpression.j2 kj41 t926 t925 true)) = some r := H
             have A74 := Aside0.mk A740
             clear A740
             by_cases c75 : t936 = true
             ·subst c75
              have H1 : (laws_FnExactParseExpression.j2 kj41 t926 t925 (t935 != t906)) = some r := by rw [if_pos rfl] at H; exact H
              clear H
              have H := H1
              clear H1
              have H' := Aside0.mk H
              clear H
              obtain ⟨Ao76, co76, eo76⟩ := Kd.R_slice HO934.out
              subst eo76
              obtain ⟨Ao77, co77, eo77⟩ := Kd.R_slice HO_6.out
              subst eo77
              go_wp2_with (first | ((with_reducible refine gate_callee (f := 24) rfl ?_); refine goesS (some 89) Tryd.func24 #[.slice Ao76 t932.length co76, .slice Ao77 t903.length co77] ?_; (with_reducible refine (laws_eqTermS.calls kj41 _ _ t932 _ _ t903 true _ ?side1 ?side2 ?side3 ?side4 A74.out).mono ?_); (case side1 => exact cP ((Kd.R_reads' HO934.out).2.2)); (case side2 => exact (Kd.R_reads' HO934.out).2.1); (case side3 => exact cP ((Kd.R_reads' HO_6.out).2.2)); (case side4 => exact (Kd.R_reads' HO_6.out).2.1); rintro e w78 ⟨rfl, hb⟩; refine ⟨_, rfl, ?_⟩; have n0_ := Aside0.mk (Kd.R_below (rP HO_6.out) hb); have n1_ := Aside0.mk (Kd.R_below (rP HO_9.out) hb); have n2_ := Aside0.mk (Kd.R_below (rP HO_912001.out) hb); have n3_ := Aside0.mk (Kd.R_below (rP HO931.out) hb); have n4_ := Aside0.mk (Kd.R_below (rP HO934.out) hb); have n5_ := Aside0.mk (blkB BK897.out hb); have n6_ := Aside0.mk (blkB BK911.out hb); have n7_ := Aside0.mk (below_step (bW) hb); clear HO_6; clear HO_9; clear HO_912001; clear HO931; clear HO934; clear BK897; clear BK911; clear HB; have HO_6 := n0_; have HO_9 := n1_; have HO_912001 := n2_; have HO931 := n3_; have HO934 := n4_; have BK897 := n5_; have BK911 := n6_; have HB := n7_; clear n0_ n1_ n2_ n3_ n4_ n5_ n6_ n7_; (try clear hb); (try clear hb2); (try clear hk); (try clear hi)))
              go_meet
              case rel => exact ⟨_, ((t935 != t906)), (eW), H', ⟨by have := HJ13.out; have := HJ41.out; first | omega | exact Nat.le_refl _⟩, ⟨by (try simp only [hl912001_41]); (with_reducible repeat (first | apply Kd.R_alloc | apply Kd.R_drewN | apply Kd.R_drew)); exact Kd.R_mono HO_9.out (fun _ hk => trivial)⟩, ⟨by (try simp only [hl912001_41]); (with_reducible repeat (first | apply Kd.R_alloc | apply Kd.R_drewN | apply Kd.R_drew)); exact Kd.R_mono HO_912001.out (fun _ hk => trivial)⟩, ⟨by (try simp only [hl912001_41]); exact bP BK897.out⟩, ⟨by (try simp only [hl912001_41]); exact bP BK911.out⟩, ⟨bW⟩⟩
             ·replace c75 := Bool.eq_false_iff.mpr c75
              subst c75
              have H1 : (laws_FnExactParseExpression.j2 kj41 t926 t925 true) = some r := by rw [if_neg (show ¬ (false = true) by decide)] at H; exact H
              clear H
              have H := H1
              clear H1
              have H' := Aside0.mk H
              clear H
              obtain ⟨Ao79, co79, eo79⟩ := Kd.R_slice HO934.out
              subst eo79
              obtain ⟨Ao80, co80, eo80⟩ := Kd.R_slice HO_6.out
              subst eo80
              go_wp2_with (first | ((with_reducible refine gate_callee (f := 24) rfl ?_); refine goesS (some 89) Tryd.func24 #[.slice Ao79 t932.length co79, .slice Ao80 t903.length co80] ?_; (with_reducible refine (laws_eqTermS.calls kj41 _ _ t932 _ _ t903 false _ ?side1 ?side2 ?side3 ?side4 A74.out).mono ?_); (case side1 => exact cP ((Kd.R_reads' HO934.out).2.2)); (case side2 => exact (Kd.R_reads' HO934.out).2.1); (case side3 => exact cP ((Kd.R_reads' HO_6.out).2.2)); (case side4 => exact (Kd.R_reads' HO_6.out).2.1); rintro e w81 ⟨rfl, hb⟩; refine ⟨_, rfl, ?_⟩; have n0_ := Aside0.mk (Kd.R_below (rP HO_6.out) hb); have n1_ := Aside0.mk (Kd.R_below (rP HO_9.out) hb); have n2_ := Aside0.mk (Kd.R_below (rP HO_912001.out) hb); have n3_ := Aside0.mk (Kd.R_below (rP HO931.out) hb); have n4_ := Aside0.mk (Kd.R_below (rP HO934.out) hb); have n5_ := Aside0.mk (blkB BK897.out hb); have n6_ := Aside0.mk (blkB BK911.out hb); have n7_ := Aside0.mk (below_step (bW) hb); clear HO_6; clear HO_9; clear HO_912001; clear HO931; clear HO934; clear BK897; clear BK911; clear HB; have HO_6 := n0_; have HO_9 := n1_; have HO_912001 := n2_; have HO931 := n3_; have HO934 := n4_; have BK897 := n5_; have BK911 := n6_; have HB := n7_; clear n0_ n1_ n2_ n3_ n4_ n5_ n6_ n7_; (try clear hb); (try clear hb2); (try clear hk); (try clear hi)))
              go_meet
              case rel => exact ⟨_, (true), (eW), H', ⟨by have := HJ13.out; have := HJ41.out; first | omega | exact Nat.le_refl _⟩, ⟨by (try simp only [hl912001_41]); (with_reducible repeat (first | apply Kd.R_alloc | apply Kd.R_drewN | apply Kd.R_drew)); exact Kd.R_mono HO_9.out (fun _ hk => trivial)⟩, ⟨by (try simp only [hl912001_41]); (with_reducible repeat (first | apply Kd.R_alloc | apply Kd.R_drewN | apply Kd.R_drew)); exact Kd.R_mono HO_912001.out (fun _ hk => trivial)⟩, ⟨by (try simp only [hl912001_41]); exact bP BK897.out⟩, ⟨by (try simp only [hl912001_41]); exact bP BK911.out⟩, ⟨bW⟩⟩
            case rest =>
             clear HC66
             try clear c1
             try clear c2
             try clear p2
             try clear c3
             try clear c3b0
             try clear c3b1
             try clear c4
             try clear c5
             try clear c6
             try clear c6b0
             try clear c7
             try clear c8
             try clear c12
             try clear c15
             try clear c18
             try clear c24
             try clear c25
             try clear c30
             try clear c33
             try clear c37
             try clear c40
             try clear c42
             try clear c43
             try clear c44
             try clear c45
             try clear c47
             try clear c50
             try clear c50b0
             try clear c52
             try clear c59
             try clear c62
             try clear c62b0
             try clear c63
             try clear c63b0
             try clear c63b1
             try clear c69
             try clear c75
             try clear hcz16_0
             try clear hcz16_1
             try clear hcz18_0
             try clear hcz18_1
             try clear hcz22_0
             try clear hcz22_1
             try clear hcz26_0
             try clear hcz26_1
             try clear hcz48_0
             try clear hcz48_1
             try clear hcz70_0
             try clear hcz70_1
             try clear hcz8_0
             try clear hcz8_1
             try clear hfz16_0
             try clear hfz16_1
             try clear hfz18_0
             try clear hfz18_1
             try clear hfz22_0
             try clear hfz22_1
             try clear hfz26_0
             try clear hfz26_1
             try clear hfz48_0
             try clear hfz48_1
             try clear hfz70_0
             try clear hfz70_1
             try clear hfz8_0
             try clear hfz8_1
             try clear p2
             obtain ⟨kq, x95_65, rfl, HA, HJ65, HO_9, HO_912001, BK897, BK911, HB⟩ := hcut
             have hl9_65 := (Kd.R_reads' HO_9.out).1
             rw [hl9_65] at HO_9
             (try simp only [hl9_65])
             (try simp only [hl9_65] at BK897)
             (try simp only [hl9_65] at BK911)
             (try simp only [hl9_65] at HO_912001)
             cases kq with
             | zero => exact absurd HA.out (by simp [laws_FnExactParseExpression.j2])
             | succ kj65 =>
              have H := HA.out
              clear HA
              simp only [laws_FnExactParseExpression.j2] at H
              by_cases c82 : x95_65 = true
              ·subst c82
               have H1 : (some false) = some r := by rw [if_pos rfl] at H; exact H
               clear H
               have H := H1
               clear H1
               exact absurd (Option.some.inj H) (by rw [HTr_.out]; decide)
              ·replace c82 := Bool.eq_false_iff.mpr c82
               subst c82
               have H1 : ((laws_heldTermS.f kj65 t926 1).bind fun t937 => (if t937 < 0 then (some false) else (if t937 = t925 then (some true) else (some false)))) = some r := by rw [if_neg (show ¬ (false = true) by decide)] at H; exact H
               clear H
               have H := H1
               clear H1
               replace H := Option.bind_eq_some_iff.mp H
               obtain ⟨t937, A830, H⟩ := H
               replace H : (if t937 < 0 then (some false) else (if t937 = t925 then (some true) else (some false))) = some r := H
               have A83 := Aside0.mk A830
               clear A830
               by_cases c84 : t937 < 0
               ·rw [if_pos c84] at H
                have c84b0 : decide (t937 < 0) = true := decide_eq_true c84
                clear c84
                exact absurd (Option.some.inj H) (by rw [HTr_.out]; decide)
               ·rw [if_neg c84] at H
                have c84b0 : decide (t937 < 0) = false := decide_eq_false c84
                clear c84
                by_cases c85 : t937 = t925
                ·rw [if_pos c85] at H
                 have c85b0 : (t937 == t925) = true := beq_iff_eq.mpr c85
                 have c85b1 : (t937 != t925) = false := bne_eq_false_iff_eq.mpr c85
                 clear c85
                 obtain rfl := Option.some.inj H
                 go_wp2_with (first | ((with_reducible refine gate_callee (f := 45) rfl ?_); refine goesS (some 98) Tryd.func45 #[.slice Ao67 t926.length co67, .int .i64 1] ?_; (with_reducible refine (laws_heldTermS.calls kj65 _ _ t926 1 t937 _ ?side1 ?side2 A83.out).mono ?_); (case side1 => exact cP ((Kd.R_reads' HO_9.out).2.2)); (case side2 => exact (Kd.R_reads' HO_9.out).2.1); rintro e w' ⟨rfl, ⟨nd, rfl⟩⟩; refine ⟨_, rfl, ?_⟩))
                 go_ret
                 exact ⟨eW, bW⟩
                ·rw [if_neg c85] at H
                 have c85b0 : (t937 == t925) = false := beq_eq_false_iff_ne.mpr c85
                 have c85b1 : (t937 != t925) = true := bne_iff_ne.mpr c85
                 exact absurd (Option.some.inj H) (by rw [HTr_.out]; decide)
           ·rw [if_neg c63] at H
            have c63b0 : (t927 == t925) = false := beq_eq_false_iff_ne.mpr c63
            have c63b1 : (t927 != t925) = true := bne_iff_ne.mpr c63
            exact absurd (Option.some.inj H) (by rw [HTr_.out]; decide)
      ·replace c40 := Bool.eq_false_iff.mpr c40
       subst c40
       have H1 : (some false) = some r := by rw [if_neg (show ¬ (false = true) by decide)] at H; exact H
       clear H
       have H := H1
       clear H1
       exact absurd (Option.some.inj H) (by rw [HTr_.out]; decide)

end Go.Proofs.YthbaocejgjpfoaaDoor.P
end M1
section M2
namespace Go.Proofs.YthbaocejgjpfoaaDoor.Op
open Go.RowKit Go.Proofs.YthbaocejgjpfoaaDoorW.PrintWords Go.Proofs.YthbaocejgjpfoaaDoorW.PrintLast Go.Proofs.YthbaocejgjpfoaaDoorW.PrintMore
/-- What is read at type t lies in memory as kind d says. -/
def Opens {α : Type} (P : Program) (t : TypeId) (d : Kd α) (ok : α → Prop) : Prop :=
  ∀ (H : Type) (enc : TypeId × Value → H) (w : World) (base : Nat) (held : Bool) (fuel : Nat) (cs : List Value) (x : DataW H × List MemPlace),
    DataW.trod enc P w base (fun _ => true) held fuel t cs = some x → ∃ a, d.K w a cs ∧ ok a
theorem opens_int {P : Program} {t : TypeId} {k : IntKind} (ht : P.underlying t = some (.int k)) : Opens P t (Kd.int k) (fun n => (Lit.int k n).wf = true) := by
  intro H enc w base held fuel cs x h
  obtain ⟨n, rfl, _, hw⟩ := DataW.trod_int ht h
  exact ⟨n, rfl, hw⟩
theorem opens_slice {α : Type} {P : Program} {t e : TypeId} {d : Kd α} {ok : α → Prop} (ht : P.underlying t = some (.slice e)) (hc : P.cellsOf e = d.sz) (he : Opens P e d ok) :
    Opens P t (Kd.slice e d) (fun xs => xs.length ≤ maxLen ∧ ∀ x ∈ xs, ok x) := by
  intro H enc w base held fuel cs x h
  rcases DataW.trod_slice ht h with ⟨rfl, _⟩ | ⟨a, len, cap, elems, rest, n, _, rfl, _, hb, hl, hm, hlen, hel, _, _⟩
  · exact ⟨[], ⟨none, 0, rfl, Nat.le_refl _, rfl, by simp, fun h => absurd h (by simp)⟩, by simp, by simp⟩
  · have each : ∀ i, i < len → ∃ y : α × List Value, y.2.length = d.sz ∧ d.K w y.1 y.2 ∧ ok y.1 ∧ ∀ j u, y.2[j]? = some u → w.cell? (a.add (i * d.sz + j)) = some u := by
      intro i hi
      have h1 := hel i hi
      rw [List.getElem?_eq_getElem (by omega), Option.bind_eq_some_iff] at h1
      obtain ⟨cs', h2, h3⟩ := h1
      obtain ⟨y, hk, ho⟩ := he _ _ _ _ _ _ _ _ h3
      obtain ⟨_, h5, h6⟩ := World.cells?_some h2
      refine ⟨(y, cs'), h5.trans hc, hk, ho, fun j u hj => ?_⟩
      have hjl : j < P.cellsOf e := by rw [← h5]; exact (List.getElem?_eq_some_iff.1 hj).1
      have h7 := h6 j hjl
      rw [hj, hc] at h7
      rw [← Addr.add_add]
      exact h7
    have hy := fun i : Fin len => Classical.choose_spec (each i.1 i.2)
    generalize hY : (fun i : Fin len => Classical.choose (each i.1 i.2)) = y at hy
    have hy' : ∀ i : Fin len, (y i).2.length = d.sz ∧ d.K w (y i).1 (y i).2 ∧ ok (y i).1 ∧ ∀ j u, (y i).2[j]? = some u → w.cell? (a.add (i.1 * d.sz + j)) = some u := by
      intro i; rw [← hY]; exact hy i
    clear hy hY
    have hln : (List.ofFn fun i => (y i).1).length = len := by simp
    refine ⟨List.ofFn fun i => (y i).1, ⟨some a, cap, by rw [hln], by rw [hln]; exact hl, ?_⟩, by rw [hln]; omega, ?_⟩
    · refine ⟨rfl, by rw [hln]; unfold maxLen at hm; omega, fun _ => ⟨a, rfl, fun j p hj => ?_⟩⟩
      have hjl : j < len := by rw [← hln]; exact (List.getElem?_eq_some_iff.1 hj).1
      rw [List.getElem?_ofFn, dif_pos hjl, Option.some.injEq] at hj
      subst hj
      obtain ⟨q1, q2, _, q4⟩ := hy' ⟨j, hjl⟩
      exact ⟨(y ⟨j, hjl⟩).2, q1, q2, fun i u hi => q4 i u hi⟩
    · intro x hx
      rw [List.mem_ofFn] at hx
      obtain ⟨i, rfl⟩ := hx
      exact (hy' i).2.2.1
/-- An argument that is a slice. -/
theorem open_row {α : Type} {P : Program} {t e : TypeId} {d : Kd α} {ok : List α → Prop} {H : Type} {enc : TypeId × Value → H} {w : World} {base fuel : Nat} {held : Bool} {v : Value} {x : DataW H × List MemPlace}
    (h : DataW.trod enc P w base (fun _ => true) held fuel t [v] = some x) (hs : Opens P t (Kd.slice e d) ok) : ∃ A c xs, v = .slice A xs.length c ∧ xs.length ≤ c ∧ d.C w A xs.length xs ∧ ok xs := by
  obtain ⟨xs, ⟨A, c, hv, hl, hr⟩, ho⟩ := hs _ _ _ _ _ _ _ _ h
  exact ⟨A, c, xs, by simpa using hv, hl, hr, ho⟩
end Go.Proofs.YthbaocejgjpfoaaDoor.Op
end M2
