import Derived.ArgAppend
import Derived.Below
import Derived.BigQuiet
import Derived.Deep.AppendLies
import Derived.Deep.CutBlock
import Derived.Deep.DeepCutAuto
import Derived.Deep.Draws
import Derived.Deep.LoopGhost
import Derived.Deep.OwnRows
import Derived.Deep.QuietTactic
import Derived.Deep.RegionHeld3
import Derived.KernelRfl
import Derived.Laws.BitsLemmas
import Derived.Laws.BytesArg
import Derived.Laws.IdiomCopy
import Derived.Laws.MakeOwn
import Derived.Laws.OwnMore
import Derived.Laws.Rows
import Derived.Laws.Slices
import Derived.Laws.StructEq
import Derived.Lib.AppendStr
import Derived.Lib.ConvBytes
import Derived.Lib.SliceRun
import Derived.Maps.AppendAt
import Derived.OrdersHeld
import Derived.OwnWalk
import Derived.RowKit
import Derived.RowKit3
import Derived.Shelf.Abstract
import Derived.Shelf.Spec.TrailingZeros
import Derived.Tactics
import Derived.Test.YthbaocejgjpfoaaDoorProg
import Derived.WalkKit
import Derived.WideLaws
import Derived.Test.YthbaocejgjpfoaaDoorCFnExpressionTexts3
import Derived.Test.YthbaocejgjpfoaaDoorCFnExpressionTexts4
import Derived.Test.YthbaocejgjpfoaaDoorCFnExpressionTexts5
import Derived.Test.YthbaocejgjpfoaaDoorCFnExpressionTexts6
import Derived.Test.YthbaocejgjpfoaaDoorCFnExpressionTexts7
import Derived.Test.YthbaocejgjpfoaaDoorCFnExpressionTexts8
import Derived.Test.YthbaocejgjpfoaaDoorCFnExpressionTexts9
import Derived.Test.YthbaocejgjpfoaaDoorCFnExpressionTexts11
section M0
namespace Go.Proofs.YthbaocejgjpfoaaDoor.P
open Go.RowKit Go.Proofs.YthbaocejgjpfoaaDoor.Sh Go.Proofs.YthbaocejgjpfoaaDoorW.PrintWords Go.Proofs.YthbaocejgjpfoaaDoorW.PrintLast Go.Proofs.YthbaocejgjpfoaaDoorW.PrintMore
attribute [local go_sem] max2_int min2_int max_two min_two max_three min_three max_four min_four   -- for this text's walks alone
set_option linter.unusedVariables false
set_option linter.unusedSimpArgs false
attribute [local go_sem high] eqA84
/-! ### spec_DrawParseExpression: function 50 -/
def spec_DrawParseExpression.j0 : Nat → ByteArray → List Int → Int → Int → Int → List Int → Option (Int × List Int × ByteArray)
 | 0, _, _, _, _, _, _ => none
 | k + 1, x7, x1214000, x1214001, x1214002, x1222000, x1222001 => (spec_l01Next.f x1214000 x1214001 x1214002 4).bind fun bt1224 => (if bt1224.1 = 0 then ((spec_l01Damage.f x1214000 bt1224.2.1 bt1224.2.2 x7).bind fun bt1227 => (some (x1222000, x1222001, bt1227.1))) else (some (x1222000, x1222001, x7)))
def spec_DrawParseExpression.f (k : Nat) (l0 : List Int) : Option (Int × List Int × ByteArray) := (spec_l01From.f k l0).bind fun bt1210 => ((spec_l13DrawOne.f k l0).bind fun bt1214 => ((spec_IsExpression.f k bt1214.1 bt1214.2.1 bt1214.2.2).bind fun t1222 => (if t1222 = true then ((spec_l13Text.f k bt1214.2.2 0).bind fun t1223 => (spec_DrawParseExpression.j0 k t1223 bt1210.1 bt1210.2.1 bt1210.2.2 bt1214.1 bt1214.2.1)) else (spec_DrawParseExpression.j0 k (⟨#[40, 97, 43, 98, 41, 42]⟩ : ByteArray) bt1210.1 bt1210.2.1 bt1210.2.2 bt1214.1 bt1214.2.1))))
set_option maxHeartbeats 8000000 in
set_option maxRecDepth 100000 in
theorem spec_DrawParseExpression.calls (k : Nat) (A0 : Option Addr) (c0 : Nat) (l0 : List Int) (r1 : Int) (r2 : List Int) (r3 : ByteArray) (w : World) (hr0 : Kd.C (Kd.int .u8) w A0 l0.length l0) (hc0 : l0.length ≤ c0) (h : spec_DrawParseExpression.f k l0 = some (r1, r2, r3)) :
  Calls Tryd.prog 50 #[.slice A0 l0.length c0] w fun e w' => ∃ v1_ : Value, e = .returned (.tuple #[.agg #[.int .i64 r1, v1_], .string r3]) ∧ Kd.R (Kd.int .i64) 2 w' w.heap.size (fun _ => True) v1_ r2 ∧ Below w.heap.size w w' := by
 have hu29 := Tryd.underlying29
 have HR0 := Aside0.mk hr0
 have HC0 := Aside0.mk hc0
 clear hr0 hc0
 have HB := Aside0.mk (Below.refl w.heap.size w)
 have H : ((spec_l01From.f k l0).bind fun bt1210 => ((spec_l13DrawOne.f k l0).bind fun bt1214 => ((spec_IsExpression.f k bt1214.1 bt1214.2.1 bt1214.2.2).bind fun t1222 => (if t1222 = true then ((spec_l13Text.f k bt1214.2.2 0).bind fun t1223 => (spec_DrawParseExpression.j0 k t1223 bt1210.1 bt1210.2.1 bt1210.2.2 bt1214.1 bt1214.2.1)) else (spec_DrawParseExpression.j0 k (⟨#[40, 97, 43, 98, 41, 42]⟩ : ByteArray) bt1210.1 bt1210.2.1 bt1210.2.2 bt1214.1 bt1214.2.1))))) = some (r1, r2, r3) := h
 clear h
 replace H := Option.bind_eq_some_iff.mp H
 obtain ⟨⟨t1210, t1211, t1212⟩, A20, H⟩ := H
 replace H : ((spec_l13DrawOne.f k l0).bind fun bt1214 => ((spec_IsExpression.f k bt1214.1 bt1214.2.1 bt1214.2.2).bind fun t1222 => (if t1222 = true then ((spec_l13Text.f k bt1214.2.2 0).bind fun t1223 => (spec_DrawParseExpression.j0 k t1223 t1210 t1211 t1212 bt1214.1 bt1214.2.1)) else (spec_DrawParseExpression.j0 k (⟨#[40, 97, 43, 98, 41, 42]⟩ : ByteArray) t1210 t1211 t1212 bt1214.1 bt1214.2.1)))) = some (r1, r2, r3) := H
 have A2 := Aside0.mk A20
 clear A20
 replace H := Option.bind_eq_some_iff.mp H
 obtain ⟨⟨t1214, t1215, t1218⟩, A30, H⟩ := H
 replace H : ((spec_IsExpression.f k t1214 t1215 t1218).bind fun t1222 => (if t1222 = true then ((spec_l13Text.f k t1218 0).bind fun t1223 => (spec_DrawParseExpression.j0 k t1223 t1210 t1211 t1212 t1214 t1215)) else (spec_DrawParseExpression.j0 k (⟨#[40, 97, 43, 98, 41, 42]⟩ : ByteArray) t1210 t1211 t1212 t1214 t1215))) = some (r1, r2, r3) := H
 have A3 := Aside0.mk A30
 clear A30
 replace H := Option.bind_eq_some_iff.mp H
 obtain ⟨t1222, A40, H⟩ := H
 replace H : (if t1222 = true then ((spec_l13Text.f k t1218 0).bind fun t1223 => (spec_DrawParseExpression.j0 k t1223 t1210 t1211 t1212 t1214 t1215)) else (spec_DrawParseExpression.j0 k (⟨#[40, 97, 43, 98, 41, 42]⟩ : ByteArray) t1210 t1211 t1212 t1214 t1215)) = some (r1, r2, r3) := H
 have A4 := Aside0.mk A40
 clear A40
 have HC5 := Aside0.mk H
 clear H
 go_enter Tryd.func50, Tryd.ntmps50
 go_upto_if 17 with (first | ((with_reducible refine gate_dst (N := 2) rfl ?_); refine boxS (N := 2) (cs := #[.int .i64 0, .slice none 0 0]) (t := 29) ?_; intro gb1209 hg w6 hbox hb; have n0_ := Aside0.mk (below_step (bW) hb); have n1_ := Aside0.mk (hbox); have n2_ := geW (w := w) hg; have n3_ := geW (w := w) hg; clear HB; have HB := n0_; have BK1209 := n1_; have GW1209 := n2_; have GE1209 := n3_; clear n0_ n1_ n2_ n3_ hb hbox hg) | ((with_reducible refine gate_callee (f := 95) rfl ?_); refine goesS (some 9) Tryd.func95 #[.slice A0 l0.length c0] ?_; (with_reducible refine (spec_l01From.calls k _ _ l0 t1210 t1211 t1212 w _ ?side1 ?side2 ?side3 A2.out).mono ?_); (case side1 => repeat (first | (with_reducible first | exact HB.out | apply below_alloc | apply pw_below_drewN | apply below_drew1 | refine below_set ?_ GE1209.out) | exact HB.out)); (case side2 => exact HR0.out); (case side3 => exact HC0.out); rintro e w7 ⟨g1213, rfl, hi, hb, hb2⟩; refine ⟨_, rfl, ?_⟩; have n0_ := Aside0.mk (blkB BK1209.out hb2); have n1_ := Aside0.mk (hb); have n2_ := Aside0.mk (hi); have n3_ := Aside0.mk (IsS163.ne_blk hi (blkB BK1209.out hb2) (by decide)); have n4_ := Aside0.mk (Ne.symm (IsS163.ne_blk hi (blkB BK1209.out hb2) (by decide))); clear BK1209 HB; have BK1209 := n0_; have HB := n1_; have HI1213 := n2_; have NB1213_1209 := n3_; have NB1209_1213 := n4_; clear n0_ n1_ n2_ n3_ n4_; (try clear hb); (try clear hb2); (try clear hk); (try clear hi)) | ((with_reducible refine gate_callee (f := 96) rfl ?_); refine goesS (some 12) Tryd.func96 #[.slice A0 l0.length c0] ?_; (with_reducible refine (spec_l13DrawOne.calls k _ _ l0 t1214 t1215 t1218 _ ?side1 ?side2 A3.out).mono ?_); (case side1 => exact cP (Kd.C_below HR0.out HB.out)); (case side2 => exact HC0.out); rintro e w8 ⟨v1216, v1219, rfl, ho0, ho1, hb⟩; refine ⟨_, rfl, ?_⟩; have n0_ := Aside0.mk (Kd.R_lower ho0 (below_size (by repeat (first | (with_reducible first | exact HB.out | apply below_alloc | apply pw_below_drewN | apply below_drew1 | refine below_set ?_ (IsS163.ge HI1213.out) | refine below_set ?_ GE1209.out) | exact HB.out)))); have n1_ := Aside0.mk (Kd.R_lower ho1 (below_size (by repeat (first | (with_reducible first | exact HB.out | apply below_alloc | apply pw_below_drewN | apply below_drew1 | refine below_set ?_ (IsS163.ge HI1213.out) | refine below_set ?_ GE1209.out) | exact HB.out)))); have n2_ := Aside0.mk (blkB BK1209.out hb); have n3_ := Aside0.mk (IsS163.below (by repeat (first | (with_reducible first | exact HI1213.out | apply IsS163.alloc | apply IsS163.drewN | apply IsS163.drew | apply IsS163.set_1 | apply IsS163.set_2 | refine IsS163.far ?_ NB1213_1209.out _) | exact HI1213.out)) hb); have n4_ := Aside0.mk (below_step (by repeat (first | (with_reducible first | exact HB.out | apply below_alloc | apply pw_below_drewN | apply below_drew1 | refine below_set ?_ (IsS163.ge HI1213.out) | refine below_set ?_ GE1209.out) | exact HB.out)) hb); clear BK1209 HI1213 HB; have HO1217 := n0_; have HO1220 := n1_; have BK1209 := n2_; have HI1213 := n3_; have HB := n4_; clear n0_ n1_ n2_ n3_ n4_; (try clear hb); (try clear hb2); (try clear hk); (try clear hi); (try clear ho0); (try clear ho1)) | ((with_reducible refine gate_dst (N := 5) rfl ?_); refine boxS (N := 5) (cs := #[.int .i64 0, .slice none 0 0]) (t := 29) ?_; intro gb1221 hg w9 hbox hb; have n0_ := Aside0.mk (Kd.R_below (rP HO1217.out) hb); have n1_ := Aside0.mk (Kd.R_below (rP HO1220.out) hb); have n2_ := Aside0.mk (blkB BK1209.out hb); have n3_ := Aside0.mk (IsS163.below (by repeat (first | (with_reducible first | exact HI1213.out | apply IsS163.alloc | apply IsS163.drewN | apply IsS163.drew | apply IsS163.set_1 | apply IsS163.set_2 | refine IsS163.far ?_ NB1213_1209.out _) | exact HI1213.out)) hb); have n4_ := Aside0.mk (below_step (by repeat (first | (with_reducible first | exact HB.out | apply below_alloc | apply pw_below_drewN | apply below_drew1 | refine below_set ?_ (IsS163.ge HI1213.out) | refine below_set ?_ GE1209.out) | exact HB.out)) hb); have n5_ := Aside0.mk (hbox); have n6_ := Aside0.mk ((by rw [hg]; exact (below_size (by repeat (first | (with_reducible first | exact HB.out | apply below_alloc | apply pw_below_drewN | apply below_drew1 | refine below_set ?_ (IsS163.ge HI1213.out) | refine below_set ?_ GE1209.out) | exact HB.out))) : w.heap.size ≤ gb1221)); have n7_ := Aside0.mk ((by rw [hg]; exact (below_size (by repeat (first | (with_reducible first | exact HB.out | apply below_alloc | apply pw_below_drewN | apply below_drew1 | refine below_set ?_ (IsS163.ge HI1213.out) | refine below_set ?_ GE1209.out) | exact HB.out))) : w.heap.size ≤ gb1221)); have n8_ := Aside0.mk ((by rw [hg]; exact Nat.ne_of_lt (blk_lt (g := gb1209) (o := .cells #[.int .i64 0, .slice none 0 0] 29 (0, 0)) (bP BK1209.out)) : gb1209 ≠ gb1221)); have n9_ := Aside0.mk ((by rw [hg]; exact Nat.ne_of_gt (blk_lt (g := gb1209) (o := .cells #[.int .i64 0, .slice none 0 0] 29 (0, 0)) (bP BK1209.out)) : gb1221 ≠ gb1209)); have n10_ := Aside0.mk ((by rw [hg]; exact Nat.ne_of_lt (IsS163.lt (show IsS163 w _ g1213 t1210 t1211 t1212 from by repeat (first | (with_reducible first | exact HI1213.out | apply IsS163.alloc | apply IsS163.drewN | apply IsS163.drew | apply IsS163.set_1 | apply IsS163.set_2 | refine IsS163.far ?_ NB1213_1209.out _) | exact HI1213.out))) : g1213 ≠ gb1221)); have n11_ := Aside0.mk ((by rw [hg]; exact Nat.ne_of_gt (IsS163.lt (show IsS163 w _ g1213 t1210 t1211 t1212 from by repeat (first | (with_reducible first | exact HI1213.out | apply IsS163.alloc | apply IsS163.drewN | apply IsS163.drew | apply IsS163.set_1 | apply IsS163.set_2 | refine IsS163.far ?_ NB1213_1209.out _) | exact HI1213.out))) : gb1221 ≠ g1213)); clear HO1217 HO1220 BK1209 HI1213 HB; have HO1217 := n0_; have HO1220 := n1_; have BK1209 := n2_; have HI1213 := n3_; have HB := n4_; have BK1221 := n5_; have GW1221 := n6_; have GE1221 := n7_; have NB1209_1221 := n8_; have NB1221_1209 := n9_; have NB1213_1221 := n10_; have NB1221_1213 := n11_; clear n0_ n1_ n2_ n3_ n4_ n5_ n6_ n7_ n8_ n9_ n10_ n11_ hb hbox hg; have hnb10 := NB1221_1209.out; have hnc10 := NB1209_1221.out; have hnb11 := NB1221_1213.out; have hnc11 := NB1213_1221.out; obtain ⟨hcz12_0, hcz12_1⟩ := cells2 BK1221.out; obtain ⟨hfz12_0, hfz12_1⟩ := frz2 BK1221.out; obtain ⟨Ao13, co13, eo13⟩ := Kd.R_slice HO1217.out; subst eo13; obtain ⟨Ao14, co14, eo14⟩ := Kd.R_slice HO1220.out; subst eo14) | ((with_reducible refine gate_callee (f := 61) rfl ?_); refine goesS (some 17) Tryd.func61 #[.agg #[.int .i64 t1214, .slice Ao13 t1215.length co13], .slice Ao14 t1218.length co14] ?_; (with_reducible refine (spec_IsExpression.calls k t1214 _ _ t1215 _ _ t1218 t1222 _ ?side1 ?side2 ?side3 ?side4 A4.out).mono ?_); (case side1 => refine (Kd.R_reads' (e := 2) (base := w.heap.size) (ok := fun k_ => True) (n := t1215.length) (c := co13) ?_).2.2; exact (by (with_reducible repeat (first | apply Kd.R_alloc | apply Kd.R_drewN | apply Kd.R_drew)); exact (Kd.R_mono (Kd.R_far (p := ⟨gb1221, 1, none⟩) (Kd.R_far (p := ⟨gb1221, 0, none⟩) (Kd.R_types HO1217.out BK1221.out (by decide)) (fun _ hk => hk.2) (.int .i64 t1214)) (fun _ hk => hk.2) (.slice Ao13 t1215.length co13)) (fun _ h_ => h_.1)))); (case side2 => exact (Kd.R_reads' HO1217.out).2.1); (case side3 => refine (Kd.R_reads' (e := 84) (base := w.heap.size) (ok := fun k_ => True) (n := t1218.length) (c := co14) ?_).2.2; exact (by (with_reducible repeat (first | apply Kd.R_alloc | apply Kd.R_drewN | apply Kd.R_drew)); exact (Kd.R_mono (Kd.R_far (p := ⟨gb1221, 1, none⟩) (Kd.R_far (p := ⟨gb1221, 0, none⟩) (Kd.R_types HO1220.out BK1221.out (by decide)) (fun _ hk => hk.2) (.int .i64 t1214)) (fun _ hk => hk.2) (.slice Ao13 t1215.length co13)) (fun _ h_ => h_.1)))); (case side4 => exact (Kd.R_reads' HO1220.out).2.1); rintro e w15 ⟨rfl, hb⟩; refine ⟨_, rfl, ?_⟩; have n0_ := Aside0.mk (Kd.R_below (by (with_reducible repeat (first | apply Kd.R_alloc | apply Kd.R_drewN | apply Kd.R_drew)); exact (Kd.R_mono (Kd.R_far (p := ⟨gb1221, 1, none⟩) (Kd.R_far (p := ⟨gb1221, 0, none⟩) (Kd.R_types HO1217.out BK1221.out (by decide)) (fun _ hk => hk.2) (.int .i64 t1214)) (fun _ hk => hk.2) (.slice Ao13 t1215.length co13)) (fun _ h_ => h_.1))) hb); have n1_ := Aside0.mk (Kd.R_below (by (with_reducible repeat (first | apply Kd.R_alloc | apply Kd.R_drewN | apply Kd.R_drew)); exact (Kd.R_mono (Kd.R_far (p := ⟨gb1221, 1, none⟩) (Kd.R_far (p := ⟨gb1221, 0, none⟩) (Kd.R_types HO1220.out BK1221.out (by decide)) (fun _ hk => hk.2) (.int .i64 t1214)) (fun _ hk => hk.2) (.slice Ao13 t1215.length co13)) (fun _ h_ => h_.1))) hb); have n2_ := Aside0.mk (blk_below (g := gb1209) (o := .cells #[.int .i64 0, .slice none 0 0] 29 (0, 0)) (by (with_reducible repeat (first | refine blk_drewN ?_ _ | refine blk_drew ?_ | refine blk_alloc ?_ _)); refine blk_far ?_ NB1209_1221.out _; (with_reducible repeat (first | refine blk_drewN ?_ _ | refine blk_drew ?_ | refine blk_alloc ?_ _)); refine blk_far ?_ NB1209_1221.out _; exact bP BK1209.out) hb); have n3_ := Aside0.mk (IsS163.below (show IsS163 w ((w9.setCell ⟨gb1221, 0, none⟩ (.int .i64 t1214)).setCell ⟨gb1221, 1, none⟩ (.slice Ao13 t1215.length co13)) g1213 t1210 t1211 t1212 from by repeat (first | (with_reducible first | exact HI1213.out | apply IsS163.alloc | apply IsS163.drewN | apply IsS163.drew | apply IsS163.set_1 | apply IsS163.set_2 | refine IsS163.far ?_ NB1213_1209.out _ | refine IsS163.far ?_ NB1213_1221.out _) | exact HI1213.out)) hb); have n4_ := Aside0.mk (blk_below (g := gb1221) (o := .cells #[.int .i64 t1214, .slice Ao13 t1215.length co13] 29 (0, 0)) (by (with_reducible repeat (first | refine blk_drewN ?_ _ | refine blk_drew ?_ | refine blk_alloc ?_ _)); refine blk_put (cs := #[.int .i64 t1214, .slice none 0 0]) ?_ 1 _ rfl; (with_reducible repeat (first | refine blk_drewN ?_ _ | refine blk_drew ?_ | refine blk_alloc ?_ _)); refine blk_put (cs := #[.int .i64 0, .slice none 0 0]) ?_ 0 _ rfl; exact bP BK1221.out) hb); have n5_ := Aside0.mk (below_step (by repeat (first | (with_reducible first | exact HB.out | apply below_alloc | apply pw_below_drewN | apply below_drew1 | refine below_set ?_ (IsS163.ge HI1213.out) | refine below_set ?_ GE1209.out | refine below_set ?_ GE1221.out) | exact HB.out)) hb); clear HO1217 HO1220 BK1209 HI1213 BK1221 HB; have HO1217 := n0_; have HO1220 := n1_; have BK1209 := n2_; have HI1213 := n3_; have BK1221 := n4_; have HB := n5_; clear n0_ n1_ n2_ n3_ n4_ n5_; (try clear hb); (try clear hb2); (try clear hk); (try clear hi)))
 (try simp only [Act.put, List.setIfInBounds_toArray, List.set_cons_zero, List.set_cons_succ])
 go_cut [7] (fun v7 wc => ∃ (kq : Nat) (x7_4 : ByteArray), v7 = .string x7_4 ∧ Aside0 (spec_DrawParseExpression.j0 kq x7_4 t1210 t1211 t1212 t1214 t1215 = some (r1, r2, r3)) ∧ Aside0 (kq ≤ k) ∧ Aside0 (Kd.R (Kd.int .i64) 2 wc w.heap.size (fun _ => True) (.slice Ao13 t1215.length co13) t1215) ∧ Aside0 (wc.heap[gb1209]? = some (.cells #[.int .i64 0, (.slice none 0 0)] 29 (0, 0))) ∧ Aside0 (wc.heap[gb1221]? = some (.cells #[.int .i64 t1214, (.slice Ao13 t1215.length co13)] 29 (0, 0))) ∧ Aside0 (IsS163 w wc g1213 t1210 t1211 t1212) ∧ Aside0 (Below w.heap.size w wc))
 case first =>
  have H := HC5.out
  clear HC5
  by_cases c16 : t1222 = true
  ·subst c16
   have H1 : ((spec_l13Text.f k t1218 0).bind fun t1223 => (spec_DrawParseExpression.j0 k t1223 t1210 t1211 t1212 t1214 t1215)) = some (r1, r2, r3) := by rw [if_pos rfl] at H; exact H
   clear H
   have H := H1
   clear H1
   replace H := Option.bind_eq_some_iff.mp H
   obtain ⟨t1223, A170, H⟩ := H
   replace H : (spec_DrawParseExpression.j0 k t1223 t1210 t1211 t1212 t1214 t1215) = some (r1, r2, r3) := H
   have A17 := Aside0.mk A170
   clear A170
   have H' := Aside0.mk H
   clear H
   go_wp2_with (first | ((with_reducible refine gate_callee (f := 62) rfl ?_); refine goesS (some 19) Tryd.func62 #[.slice Ao14 t1218.length co14, .int .i64 0] ?_; (with_reducible refine (spec_l13Text.calls k _ _ t1218 0 t1223 _ ?side1 ?side2 A17.out).mono ?_); (case side1 => exact cP ((Kd.R_reads' HO1220.out).2.2)); (case side2 => exact (Kd.R_reads' HO1220.out).2.1); rintro e w18 ⟨rfl, hb⟩; refine ⟨_, rfl, ?_⟩; have n0_ := Aside0.mk (Kd.R_below (rP HO1217.out) hb); have n1_ := Aside0.mk (Kd.R_below (rP HO1220.out) hb); have n2_ := Aside0.mk (blkB BK1209.out hb); have n3_ := Aside0.mk (IsS163.below (by repeat (first | (with_reducible first | exact HI1213.out | apply IsS163.alloc | apply IsS163.drewN | apply IsS163.drew | apply IsS163.set_1 | apply IsS163.set_2 | refine IsS163.far ?_ NB1213_1209.out _ | refine IsS163.far ?_ NB1213_1221.out _) | exact HI1213.out)) hb); have n4_ := Aside0.mk (blkB BK1221.out hb); have n5_ := Aside0.mk (below_step (by repeat (first | (with_reducible first | exact HB.out | apply below_alloc | apply pw_below_drewN | apply below_drew1 | refine below_set ?_ (IsS163.ge HI1213.out) | refine below_set ?_ GE1209.out | refine below_set ?_ GE1221.out) | exact HB.out)) hb); clear HO1217 HO1220 BK1209 HI1213 BK1221 HB; have HO1217 := n0_; have HO1220 := n1_; have BK1209 := n2_; have HI1213 := n3_; have BK1221 := n4_; have HB := n5_; clear n0_ n1_ n2_ n3_ n4_ n5_; (try clear hb); (try clear hb2); (try clear hk); (try clear hi)))
   go_meet
   case rel => exact ⟨_, (t1223), (eW), H', ⟨by first | omega | exact Nat.le_refl _⟩, ⟨(rP HO1217.out)⟩, ⟨(bP BK1209.out)⟩, ⟨(bP BK1221.out)⟩, ⟨by repeat (first | (with_reducible first | exact HI1213.out | apply IsS163.alloc | apply IsS163.drewN | apply IsS163.drew | apply IsS163.set_1 | apply IsS163.set_2 | refine IsS163.far ?_ NB1213_1209.out _ | refine IsS163.far ?_ NB1213_1221.out _) | exact HI1213.out)⟩, ⟨by repeat (first | (with_reducible first | exact HB.out | apply below_alloc | apply pw_below_drewN | apply below_drew1 | refine below_set ?_ (IsS163.ge HI1213.out) | refine below_set ?_ GE1209.out | refine below_set ?_ GE1221.out) | exact HB.out)⟩⟩
  ·replace c16 := Bool.eq_false_iff.mpr c16
   subst c16
   have H1 : (spec_DrawParseExpression.j0 k (⟨#[40, 97, 43, 98, 41, 42]⟩ : ByteArray) t1210 t1211 t1212 t1214 t1215) = some (r1, r2, r3) := by rw [if_neg (show ¬ (false = true) by decide)] at H; exact H
   clear H
   have H := H1
   clear H1
   have H' := Aside0.mk H
   clear H
   go_wp2
   go_meet
   case rel => exact ⟨_, ((⟨#[40, 97, 43, 98, 41, 42]⟩ : ByteArray)), (eW), H', ⟨by first | omega | exact Nat.le_refl _⟩, ⟨(rP HO1217.out)⟩, ⟨(bP BK1209.out)⟩, ⟨(bP BK1221.out)⟩, ⟨by repeat (first | (with_reducible first | exact HI1213.out | apply IsS163.alloc | apply IsS163.drewN | apply IsS163.drew | apply IsS163.set_1 | apply IsS163.set_2 | refine IsS163.far ?_ NB1213_1209.out _ | refine IsS163.far ?_ NB1213_1221.out _) | exact HI1213.out)⟩, ⟨by repeat (first | (with_reducible first | exact HB.out | apply below_alloc | apply pw_below_drewN | apply below_drew1 | refine below_set ?_ (IsS163.ge HI1213.out) | refine below_set ?_ GE1209.out | refine below_set ?_ GE1221.out) | exact HB.out)⟩⟩
 case rest =>
  clear HC5
  try clear c1
  try clear p2
  try clear c5
  try clear c6
  try clear c9
  try clear c10
  try clear c11
  try clear c16
  try clear hcz12_0
  try clear hcz12_1
  try clear hfz12_0
  try clear hfz12_1
  obtain ⟨kq, x7_4, rfl, HA, HJ4, HO_1222001, BK1209, BK1221, HI1213, HB⟩ := hcut
  cases kq with
  | zero => exact absurd HA.out (by simp [spec_DrawParseExpression.j0])
  | succ kj4 =>
   have H := HA.out
   clear HA
   simp only [spec_DrawParseExpression.j0] at H
   replace H := Option.bind_eq_some_iff.mp H
   obtain ⟨⟨t1224, t1225, t1226⟩, A190, H⟩ := H
   replace H : (if t1224 = 0 then ((spec_l01Damage.f t1210 t1225 t1226 x7_4).bind fun bt1227 => (some (t1214, t1215, bt1227.1))) else (some (t1214, t1215, x7_4))) = some (r1, r2, r3) := H
   have A19 := Aside0.mk A190
   clear A190
   by_cases c20 : t1224 = 0
   ·rw [if_pos c20] at H
    have c20b0 : (t1224 == 0) = true := beq_iff_eq.mpr c20
    have c20b1 : (t1224 != 0) = false := bne_eq_false_iff_eq.mpr c20
    clear c20
    replace H := Option.bind_eq_some_iff.mp H
    obtain ⟨⟨t1227, t1228, t1229⟩, A210, H⟩ := H
    replace H : (some (t1214, t1215, t1227)) = some (r1, r2, r3) := H
    have A21 := Aside0.mk A210
    clear A210
    simp only [Option.some.injEq, Prod.mk.injEq] at H
    obtain ⟨rfl, rfl, rfl⟩ := H
    go_wp2_with (first | ((with_reducible refine gate_callee (f := 97) rfl ?_); refine goesS (some 21) Tryd.func97 #[.pointer (some ⟨g1213, 0, none⟩), .int .i64 4] ?_; (with_reducible refine (spec_l01Next.calls g1213 t1210 t1211 t1212 4 t1224 t1225 t1226 w _ ?side1 ?side2 A19.out).mono ?_); (case side1 => repeat (first | (with_reducible first | exact HI1213.out | apply IsS163.alloc | apply IsS163.drewN | apply IsS163.drew | apply IsS163.set_1 | apply IsS163.set_2 | refine IsS163.far ?_ NB1213_1209.out _ | refine IsS163.far ?_ NB1213_1221.out _) | exact HI1213.out)); (case side2 => repeat (first | (with_reducible first | exact HB.out | apply below_alloc | apply pw_below_drewN | apply below_drew1 | refine below_set ?_ (IsS163.ge HI1213.out) | refine below_set ?_ GE1209.out | refine below_set ?_ GE1221.out) | exact HB.out)); rintro e w22 ⟨rfl, hi, hb, hk⟩; refine ⟨_, rfl, ?_⟩; have n0_ := Aside0.mk (Kd.R_mono (Kd.R_keep (IsS163.apart (show IsS163 w _ g1213 t1210 t1211 t1212 from by repeat (first | (with_reducible first | exact HI1213.out | apply IsS163.alloc | apply IsS163.drewN | apply IsS163.drew | apply IsS163.set_1 | apply IsS163.set_2 | refine IsS163.far ?_ NB1213_1209.out _ | refine IsS163.far ?_ NB1213_1221.out _) | exact HI1213.out)) (rP HO_1222001.out) (by decide)) hk (fun _ h => h.2)) (fun _ h => h.1)); have n1_ := Aside0.mk (KeepBut.blk hk (g' := gb1209) (o := .cells #[.int .i64 0, .slice none 0 0] 29 (0, 0)) (bP BK1209.out) NB1209_1213.out (by simp)); have n2_ := Aside0.mk (KeepBut.blk hk (g' := gb1221) (o := .cells #[.int .i64 t1214, .slice Ao13 t1215.length co13] 29 (0, 0)) (bP BK1221.out) NB1221_1213.out (by simp)); have n3_ := Aside0.mk (hb); have n4_ := Aside0.mk (hi); clear HO_1222001 BK1209 BK1221 HB HI1213; have HO_1222001 := n0_; have BK1209 := n1_; have BK1221 := n2_; have HB := n3_; have HI1213 := n4_; clear n0_ n1_ n2_ n3_ n4_; (try clear hb); (try clear hb2); (try clear hk); (try clear hi)) | ((with_reducible refine gate_callee (f := 98) rfl ?_); refine goesS (some 25) Tryd.func98 #[.pointer (some ⟨g1213, 0, none⟩), .string x7_4] ?_; (with_reducible refine (spec_l01Damage.calls g1213 t1210 t1225 t1226 x7_4 t1227 t1228 t1229 w _ ?side1 ?side2 A21.out).mono ?_); (case side1 => repeat (first | (with_reducible first | exact HI1213.out | apply IsS163.alloc | apply IsS163.drewN | apply IsS163.drew | apply IsS163.set_1 | apply IsS163.set_2 | refine IsS163.far ?_ NB1213_1209.out _ | refine IsS163.far ?_ NB1213_1221.out _) | exact HI1213.out)); (case side2 => repeat (first | (with_reducible first | exact HB.out | apply below_alloc | apply pw_below_drewN | apply below_drew1 | refine below_set ?_ (IsS163.ge HI1213.out) | refine below_set ?_ GE1209.out | refine below_set ?_ GE1221.out) | exact HB.out)); rintro e w23 ⟨rfl, hi, hb, hk⟩; refine ⟨_, rfl, ?_⟩; have n0_ := Aside0.mk (Kd.R_mono (Kd.R_keep (IsS163.apart (show IsS163 w _ g1213 t1210 t1225 t1226 from by repeat (first | (with_reducible first | exact HI1213.out | apply IsS163.alloc | apply IsS163.drewN | apply IsS163.drew | apply IsS163.set_1 | apply IsS163.set_2 | refine IsS163.far ?_ NB1213_1209.out _ | refine IsS163.far ?_ NB1213_1221.out _) | exact HI1213.out)) (rP HO_1222001.out) (by decide)) hk (fun _ h => h.2)) (fun _ h => h.1)); have n1_ := Aside0.mk (KeepBut.blk hk (g' := gb1209) (o := .cells #[.int .i64 0, .slice none 0 0] 29 (0, 0)) (bP BK1209.out) NB1209_1213.out (by simp)); have n2_ := Aside0.mk (KeepBut.blk hk (g' := gb1221) (o := .cells #[.int .i64 t1214, .slice Ao13 t1215.length co13] 29 (0, 0)) (bP BK1221.out) NB1221_1213.out (by simp)); have n3_ := Aside0.mk (hb); have n4_ := Aside0.mk (hi); clear HO_1222001 BK1209 BK1221 HB HI1213; have HO_1222001 := n0_; have BK1209 := n1_; have BK1221 := n2_; have HB := n3_; have HI1213 := n4_; clear n0_ n1_ n2_ n3_ n4_; (try clear hb); (try clear hb2); (try clear hk); (try clear hi); have hnb24 := NB1221_1209.out; have hnc24 := NB1209_1221.out; have hnb25 := NB1221_1213.out; have hnc25 := NB1213_1221.out; obtain ⟨hcz26_0, hcz26_1⟩ := cells2 BK1221.out; obtain ⟨hfz26_0, hfz26_1⟩ := frz2 BK1221.out; have hnb27 := NB1209_1213.out; have hnc27 := NB1213_1209.out; obtain ⟨hcz28_0, hcz28_1⟩ := cells2 BK1209.out; obtain ⟨hfz28_0, hfz28_1⟩ := frz2 BK1209.out))
    refine bodyPost_ret (results_ct rfl _ _ gb1209 29 #[.int .i64 t1214, .slice Ao13 t1215.length co13] (0, 0) _ rfl (by (with_reducible repeat (first | refine blk_drewN ?_ _ | refine blk_drew ?_ | refine blk_alloc ?_ _)); refine blk_put (cs := #[.int .i64 t1214, .slice none 0 0]) ?_ 1 _ rfl; (with_reducible repeat (first | refine blk_drewN ?_ _ | refine blk_drew ?_ | refine blk_alloc ?_ _)); refine blk_put (cs := #[.int .i64 0, .slice none 0 0]) ?_ 0 _ rfl; exact bP BK1209.out) Tryd.underlying29 rfl (by kernel_rfl)) rfl ?_
    exact ⟨_, eW, by (with_reducible repeat (first | apply Kd.R_alloc | apply Kd.R_drewN | apply Kd.R_drew)); exact Kd.R_mono (Kd.R_far (p := ⟨gb1209, 1, none⟩) (Kd.R_far (p := ⟨gb1209, 0, none⟩) (Kd.R_types HO_1222001.out BK1209.out (by decide)) (fun _ hk => hk.2) (.int .i64 t1214)) (fun _ hk => hk.2) (.slice Ao13 t1215.length co13)) (fun _ hk => trivial), by repeat (first | (with_reducible first | exact HB.out | apply below_alloc | apply pw_below_drewN | apply below_drew1 | refine below_set ?_ (IsS163.ge HI1213.out) | refine below_set ?_ GE1209.out | refine below_set ?_ GE1221.out) | exact HB.out)⟩
   ·rw [if_neg c20] at H
    have c20b0 : (t1224 == 0) = false := beq_eq_false_iff_ne.mpr c20
    have c20b1 : (t1224 != 0) = true := bne_iff_ne.mpr c20
    simp only [Option.some.injEq, Prod.mk.injEq] at H
    obtain ⟨rfl, rfl, rfl⟩ := H
    go_wp2_with (first | ((with_reducible refine gate_callee (f := 97) rfl ?_); refine goesS (some 21) Tryd.func97 #[.pointer (some ⟨g1213, 0, none⟩), .int .i64 4] ?_; (with_reducible refine (spec_l01Next.calls g1213 t1210 t1211 t1212 4 t1224 t1225 t1226 w _ ?side1 ?side2 A19.out).mono ?_); (case side1 => repeat (first | (with_reducible first | exact HI1213.out | apply IsS163.alloc | apply IsS163.drewN | apply IsS163.drew | apply IsS163.set_1 | apply IsS163.set_2 | refine IsS163.far ?_ NB1213_1209.out _ | refine IsS163.far ?_ NB1213_1221.out _) | exact HI1213.out)); (case side2 => repeat (first | (with_reducible first | exact HB.out | apply below_alloc | apply pw_below_drewN | apply below_drew1 | refine below_set ?_ (IsS163.ge HI1213.out) | refine below_set ?_ GE1209.out | refine below_set ?_ GE1221.out) | exact HB.out)); rintro e w29 ⟨rfl, hi, hb, hk⟩; refine ⟨_, rfl, ?_⟩; have n0_ := Aside0.mk (Kd.R_mono (Kd.R_keep (IsS163.apart (show IsS163 w _ g1213 t1210 t1211 t1212 from by repeat (first | (with_reducible first | exact HI1213.out | apply IsS163.alloc | apply IsS163.drewN | apply IsS163.drew | apply IsS163.set_1 | apply IsS163.set_2 | refine IsS163.far ?_ NB1213_1209.out _ | refine IsS163.far ?_ NB1213_1221.out _) | exact HI1213.out)) (rP HO_1222001.out) (by decide)) hk (fun _ h => h.2)) (fun _ h => h.1)); have n1_ := Aside0.mk (KeepBut.blk hk (g' := gb1209) (o := .cells #[.int .i64 0, .slice none 0 0] 29 (0, 0)) (bP BK1209.out) NB1209_1213.out (by simp)); have n2_ := Aside0.mk (KeepBut.blk hk (g' := gb1221) (o := .cells #[.int .i64 t1214, .slice Ao13 t1215.length co13] 29 (0, 0)) (bP BK1221.out) NB1221_1213.out (by simp)); have n3_ := Aside0.mk (hb); have n4_ := Aside0.mk (hi); clear HO_1222001 BK1209 BK1221 HB HI1213; have HO_1222001 := n0_; have BK1209 := n1_; have BK1221 := n2_; have HB := n3_; have HI1213 := n4_; clear n0_ n1_ n2_ n3_ n4_; (try clear hb); (try clear hb2); (try clear hk); (try clear hi); have hnb30 := NB1221_1209.out; have hnc30 := NB1209_1221.out; have hnb31 := NB1221_1213.out; have hnc31 := NB1213_1221.out; obtain ⟨hcz32_0, hcz32_1⟩ := cells2 BK1221.out; obtain ⟨hfz32_0, hfz32_1⟩ := frz2 BK1221.out; have hnb33 := NB1209_1213.out; have hnc33 := NB1213_1209.out; obtain ⟨hcz34_0, hcz34_1⟩ := cells2 BK1209.out; obtain ⟨hfz34_0, hfz34_1⟩ := frz2 BK1209.out))
    refine bodyPost_ret (results_ct rfl _ _ gb1209 29 #[.int .i64 t1214, .slice Ao13 t1215.length co13] (0, 0) _ rfl (by (with_reducible repeat (first | refine blk_drewN ?_ _ | refine blk_drew ?_ | refine blk_alloc ?_ _)); refine blk_put (cs := #[.int .i64 t1214, .slice none 0 0]) ?_ 1 _ rfl; (with_reducible repeat (first | refine blk_drewN ?_ _ | refine blk_drew ?_ | refine blk_alloc ?_ _)); refine blk_put (cs := #[.int .i64 0, .slice none 0 0]) ?_ 0 _ rfl; exact bP BK1209.out) Tryd.underlying29 rfl (by kernel_rfl)) rfl ?_
    exact ⟨_, eW, by (with_reducible repeat (first | apply Kd.R_alloc | apply Kd.R_drewN | apply Kd.R_drew)); exact Kd.R_mono (Kd.R_far (p := ⟨gb1209, 1, none⟩) (Kd.R_far (p := ⟨gb1209, 0, none⟩) (Kd.R_types HO_1222001.out BK1209.out (by decide)) (fun _ hk => hk.2) (.int .i64 t1214)) (fun _ hk => hk.2) (.slice Ao13 t1215.length co13)) (fun _ hk => trivial), by repeat (first | (with_reducible first | exact HB.out | apply below_alloc | apply pw_below_drewN | apply below_drew1 | refine below_set ?_ (IsS163.ge HI1213.out) | refine below_set ?_ GE1209.out | refine below_set ?_ GE1221.out) | exact HB.out)⟩
/-! ### spec_DrawExpressionText: function 52 -/
def spec_DrawExpressionText.f (k : Nat) (l0 : List Int) : Option (Int × List Int × (List (S84))) := (spec_l13DrawOne.f k l0).bind fun bt1231 => (some (bt1231.1, bt1231.2.1, bt1231.2.2))
set_option maxHeartbeats 8000000 in
set_option maxRecDepth 100000 in
theorem spec_DrawExpressionText.calls (k : Nat) (A0 : Option Addr) (c0 : Nat) (l0 : List Int) (r1 : Int) (r2 : List Int) (r3 : List (S84)) (w : World) (hr0 : Kd.C (Kd.int .u8) w A0 l0.length l0) (hc0 : l0.length ≤ c0) (h : spec_DrawExpressionText.f k l0 = some (r1, r2, r3)) :
  Calls Tryd.prog 52 #[.slice A0 l0.length c0] w fun e w' => ∃ v1_ v2_ : Value, e = .returned (.tuple #[.agg #[.int .i64 r1, v1_], v2_]) ∧ Kd.R (Kd.int .i64) 2 w' w.heap.size (fun _ => True) v1_ r2 ∧ Kd.R k84 84 w' w.heap.size (fun _ => True) v2_ r3 ∧ Below w.heap.size w w' := by
 have hu29 := Tryd.underlying29
 have HR0 := Aside0.mk hr0
 have HC0 := Aside0.mk hc0
 clear hr0 hc0
 have HB := Aside0.mk (Below.refl w.heap.size w)
 have H : ((spec_l13DrawOne.f k l0).bind fun bt1231 => (some (bt1231.1, bt1231.2.1, bt1231.2.2))) = some (r1, r2, r3) := h
 clear h
 replace H := Option.bind_eq_some_iff.mp H
 obtain ⟨⟨t1231, t1232, t1235⟩, A20, H⟩ := H
 replace H : (some (t1231, t1232, t1235)) = some (r1, r2, r3) := H
 have A2 := Aside0.mk A20
 clear A20
 simp only [Option.some.injEq, Prod.mk.injEq] at H
 obtain ⟨rfl, rfl, rfl⟩ := H
 go_enter Tryd.func52, Tryd.ntmps52
 go_wp2_with (first | ((with_reducible refine gate_dst (N := 2) rfl ?_); refine boxS (N := 2) (cs := #[.int .i64 0, .slice none 0 0]) (t := 29) ?_; intro gb1230 hg w3 hbox hb; have n0_ := Aside0.mk (below_step (bW) hb); have n1_ := Aside0.mk (hbox); have n2_ := geW (w := w) hg; have n3_ := geW (w := w) hg; clear HB; have HB := n0_; have BK1230 := n1_; have GW1230 := n2_; have GE1230 := n3_; clear n0_ n1_ n2_ n3_ hb hbox hg) | ((with_reducible refine gate_callee (f := 96) rfl ?_); refine goesS (some 5) Tryd.func96 #[.slice A0 l0.length c0] ?_; (with_reducible refine (spec_l13DrawOne.calls k _ _ l0 t1231 t1232 t1235 _ ?side1 ?side2 A2.out).mono ?_); (case side1 => exact cP (Kd.C_below HR0.out HB.out)); (case side2 => exact HC0.out); rintro e w4 ⟨v1233, v1236, rfl, ho0, ho1, hb⟩; refine ⟨_, rfl, ?_⟩; have n0_ := Aside0.mk (Kd.R_lower ho0 (below_size (bW))); have n1_ := Aside0.mk (Kd.R_lower ho1 (below_size (bW))); have n2_ := Aside0.mk (blkB BK1230.out hb); have n3_ := Aside0.mk (below_step (bW) hb); clear BK1230 HB; have HO1234 := n0_; have HO1237 := n1_; have BK1230 := n2_; have HB := n3_; clear n0_ n1_ n2_ n3_; (try clear hb); (try clear hb2); (try clear hk); (try clear hi); (try clear ho0); (try clear ho1); obtain ⟨hcz5_0, hcz5_1⟩ := cells2 BK1230.out; obtain ⟨hfz5_0, hfz5_1⟩ := frz2 BK1230.out; obtain ⟨Ao6, co6, eo6⟩ := Kd.R_slice HO1234.out; subst eo6))
 refine bodyPost_ret (results_ct rfl _ _ gb1230 29 #[.int .i64 t1231, .slice Ao6 t1232.length co6] (0, 0) _ rfl (by (with_reducible repeat (first | refine blk_drewN ?_ _ | refine blk_drew ?_ | refine blk_alloc ?_ _)); refine blk_put (cs := #[.int .i64 t1231, .slice none 0 0]) ?_ 1 _ rfl; (with_reducible repeat (first | refine blk_drewN ?_ _ | refine blk_drew ?_ | refine blk_alloc ?_ _)); refine blk_put (cs := #[.int .i64 0, .slice none 0 0]) ?_ 0 _ rfl; exact bP BK1230.out) Tryd.underlying29 rfl (by kernel_rfl)) rfl ?_
 exact ⟨_, _, eW, by (with_reducible repeat (first | apply Kd.R_alloc | apply Kd.R_drewN | apply Kd.R_drew)); exact Kd.R_mono (Kd.R_far (p := ⟨gb1230, 1, none⟩) (Kd.R_far (p := ⟨gb1230, 0, none⟩) (Kd.R_types HO1234.out BK1230.out (by decide)) (fun _ hk => hk.2) (.int .i64 t1231)) (fun _ hk => hk.2) (.slice Ao6 t1232.length co6)) (fun _ hk => trivial), by (with_reducible repeat (first | apply Kd.R_alloc | apply Kd.R_drewN | apply Kd.R_drew)); exact Kd.R_mono (Kd.R_far (p := ⟨gb1230, 1, none⟩) (Kd.R_far (p := ⟨gb1230, 0, none⟩) (Kd.R_types HO1237.out BK1230.out (by decide)) (fun _ hk => hk.2) (.int .i64 t1231)) (fun _ hk => hk.2) (.slice Ao6 t1232.length co6)) (fun _ hk => trivial), bW⟩
/-! ### laws_FnExpressionTexts: function 10 -/
mutual
def laws_FnExpressionTexts.j0 : Nat → List Int → Option (Bool)
 | 0, _ => none
 | k + 1, x0 => (spec_DrawExpressionText.f k x0).bind fun bt1256 => ((impl_ExpressionText.f k bt1256.1 bt1256.2.1 bt1256.2.2).bind fun bt1264 => ((impl_IsExpression.f k bt1256.1 bt1256.2.1 bt1256.2.2).bind fun t1266 => (if t1266 = true then ((impl_ParseExpression.f k bt1256.1 bt1256.2.1 bt1264.1).bind fun bt1267 => (if bt1264.2 = 0 then (if bt1267.2 = 0 then (laws_FnExpressionTexts.j1 k bt1256.2.2 bt1267.1 ((bt1267.1.length : Int) != (bt1256.2.2.length : Int))) else (laws_FnExpressionTexts.j1 k bt1256.2.2 bt1267.1 true)) else (laws_FnExpressionTexts.j1 k bt1256.2.2 bt1267.1 true))) else (if bt1264.2 = 1 then (some (bt1264.1.toList == ([] : List UInt8))) else (some false)))))
def laws_FnExpressionTexts.j1 : Nat → List (S84) → List (S84) → Bool → Option (Bool)
 | 0, _, _, _ => none
 | k + 1, x12, x15, x103 => if x103 = true then (some false) else (laws_FnExpressionTexts.l0 k x12 x15 0)
def laws_FnExpressionTexts.l0 : Nat → List (S84) → List (S84) → Int → Option (Bool)
 | 0, _, _, _ => none
 | k + 1, x12, x15, x17 => if x17 < (x12.length : Int) then (if 0 ≤ x17 then (if x17 < (x15.length : Int) then (if (!(((rd_T84 x12 x17).f0) == ((rd_T84 x15 x17).f0)) || (!(((rd_T84 x12 x17).f1) == ((rd_T84 x15 x17).f1)))) = true then (some false) else (laws_FnExpressionTexts.l0 k x12 x15 (wrap64 (x17 + 1)))) else (none)) else (none)) else (some true)
end
def laws_FnExpressionTexts.f (k : Nat) (l0 : List Int) : Option (Bool) := (laws_big.f l0).bind fun t1238 => (if t1238 = true then (some true) else ((spec_DrawParseExpression.f k l0).bind fun bt1239 => ((impl_ParseExpression.f k bt1239.1 bt1239.2.1 bt1239.2.2).bind fun bt1245 => ((spec_ParseExpression.f k bt1239.1 bt1239.2.1 bt1239.2.2).bind fun bt1249 => (if bt1245.2 = bt1249.2 then (if bt1245.2 = 0 then ((impl_ExpressionText.f k bt1239.1 bt1239.2.1 bt1245.1).bind fun bt1253 => (if bt1253.2 = 0 then (if bt1253.1.toList = bt1239.2.2.toList then ((impl_IsExpression.f k bt1239.1 bt1239.2.1 bt1245.1).bind fun t1255 => (if t1255 = true then (laws_FnExpressionTexts.j0 k l0) else (some false))) else (some false)) else (some false))) else (if (bt1245.1.length : Int) > 0 then (some false) else (laws_FnExpressionTexts.j0 k l0))) else (some false))))))
set_option maxHeartbeats 8000000 in
set_option maxRecDepth 100000 in
theorem laws_FnExpressionTexts.calls (k : Nat) (A0 : Option Addr) (c0 : Nat) (l0 : List Int) (r : Bool) (w : World) (hr0 : Kd.C (Kd.int .u8) w A0 l0.length l0) (hc0 : l0.length ≤ c0) (h : laws_FnExpressionTexts.f k l0 = some r) (hT_ : r = true) (hTab : Tab w) :
  Calls Tryd.prog 10 #[.slice A0 l0.length c0] w fun e w' => e = .returned (.bool r) ∧ Below w.heap.size w w' := by
 have HTab := Aside0.mk hTab
 clear hTab
 have HTr_ := Aside0.mk hT_
 clear hT_
 have hu29 := Tryd.underlying29
 have hu84 := Tryd.underlying84
 have HR0 := Aside0.mk hr0
 have HC0 := Aside0.mk hc0
 clear hr0 hc0
 have HB := Aside0.mk (Below.refl w.heap.size w)
 have H : ((laws_big.f l0).bind fun t1238 => (if t1238 = true then (some true) else ((spec_DrawParseExpression.f k l0).bind fun bt1239 => ((impl_ParseExpression.f k bt1239.1 bt1239.2.1 bt1239.2.2).bind fun bt1245 => ((spec_ParseExpression.f k bt1239.1 bt1239.2.1 bt1239.2.2).bind fun bt1249 => (if bt1245.2 = bt1249.2 then (if bt1245.2 = 0 then ((impl_ExpressionText.f k bt1239.1 bt1239.2.1 bt1245.1).bind fun bt1253 => (if bt1253.2 = 0 then (if bt1253.1.toList = bt1239.2.2.toList then ((impl_IsExpression.f k bt1239.1 bt1239.2.1 bt1245.1).bind fun t1255 => (if t1255 = true then (laws_FnExpressionTexts.j0 k l0) else (some false))) else (some false)) else (some false))) else (if (bt1245.1.length : Int) > 0 then (some false) else (laws_FnExpressionTexts.j0 k l0))) else (some false))))))) = some r := h
 clear h
 replace H := Option.bind_eq_some_iff.mp H
 obtain ⟨t1238, A20, H⟩ := H
 replace H : (if t1238 = true then (some true) else ((spec_DrawParseExpression.f k l0).bind fun bt1239 => ((impl_ParseExpression.f k bt1239.1 bt1239.2.1 bt1239.2.2).bind fun bt1245 => ((spec_ParseExpression.f k bt1239.1 bt1239.2.1 bt1239.2.2).bind fun bt1249 => (if bt1245.2 = bt1249.2 then (if bt1245.2 = 0 then ((impl_ExpressionText.f k bt1239.1 bt1239.2.1 bt1245.1).bind fun bt1253 => (if bt1253.2 = 0 then (if bt1253.1.toList = bt1239.2.2.toList then ((impl_IsExpression.f k bt1239.1 bt1239.2.1 bt1245.1).bind fun t1255 => (if t1255 = true then (laws_FnExpressionTexts.j0 k l0) else (some false))) else (some false)) else (some false))) else (if (bt1245.1.length : Int) > 0 then (some false) else (laws_FnExpressionTexts.j0 k l0))) else (some false)))))) = some r := H
 have A2 := Aside0.mk A20
 clear A20
 by_cases c3 : t1238 = true
 ·subst c3
  have H1 : (some true) = some r := by rw [if_pos rfl] at H; exact H
  clear H
  have H := H1
  clear H1
  obtain rfl := Option.some.inj H
  go_enter Tryd.func10, Tryd.ntmps10
  go_wp2_with (first | (go_at_call 49; (with_reducible refine (laws_big.calls _ _ l0 true _ ?side1 ?side2 A2.out).mono ?_); (case side1 => exact cP HR0.out); (case side2 => exact HC0.out); rintro e w' ⟨rfl, ⟨nd, rfl⟩⟩; (try first | exact ⟨rfl, _, World.drewN_drewN _ _ _⟩ | exact ⟨rfl, _, Eq.trans (World.drewN_drewN _ _ _) (congrArg (World.drewN _) (Nat.add_assoc _ _ _))⟩)))
  repeat (go_quiet (first | (go_at_call 49; (with_reducible refine (laws_big.calls _ _ l0 true _ ?side1 ?side2 A2.out).mono ?_); (case side1 => exact cP HR0.out); (case side2 => exact HC0.out); rintro e w' ⟨rfl, ⟨nd, rfl⟩⟩; (try first | exact ⟨rfl, _, World.drewN_drewN _ _ _⟩ | exact ⟨rfl, _, Eq.trans (World.drewN_drewN _ _ _) (congrArg (World.drewN _) (Nat.add_assoc _ _ _))⟩))); try go_wp2_with (first | (go_at_call 49; (with_reducible refine (laws_big.calls _ _ l0 true _ ?side1 ?side2 A2.out).mono ?_); (case side1 => exact cP HR0.out); (case side2 => exact HC0.out); rintro e w' ⟨rfl, ⟨nd, rfl⟩⟩; (try first | exact ⟨rfl, _, World.drewN_drewN _ _ _⟩ | exact ⟨rfl, _, Eq.trans (World.drewN_drewN _ _ _) (congrArg (World.drewN _) (Nat.add_assoc _ _ _))⟩))))
  go_ret
  exact ⟨eW, bW⟩
 ·replace c3 := Bool.eq_false_iff.mpr c3
  subst c3
  have H1 : ((spec_DrawParseExpression.f k l0).bind fun bt1239 => ((impl_ParseExpression.f k bt1239.1 bt1239.2.1 bt1239.2.2).bind fun bt1245 => ((spec_ParseExpression.f k bt1239.1 bt1239.2.1 bt1239.2.2).bind fun bt1249 => (if bt1245.2 = bt1249.2 then (if bt1245.2 = 0 then ((impl_ExpressionText.f k bt1239.1 bt1239.2.1 bt1245.1).bind fun bt1253 => (if bt1253.2 = 0 then (if bt1253.1.toList = bt1239.2.2.toList then ((impl_IsExpression.f k bt1239.1 bt1239.2.1 bt1245.1).bind fun t1255 => (if t1255 = true then (laws_FnExpressionTexts.j0 k l0) else (some false))) else (some false)) else (some false))) else (if (bt1245.1.length : Int) > 0 then (some false) else (laws_FnExpressionTexts.j0 k l0))) else (some false))))) = some r := by rw [if_neg (show ¬ (false = true) by decide)] at H; exact H
  clear H
  have H := H1
  clear H1
  replace H := Option.bind_eq_some_iff.mp H
  obtain ⟨⟨t1239, t1240, t1243⟩, A40, H⟩ := H
  replace H : ((impl_ParseExpression.f k t1239 t1240 t1243).bind fun bt1245 => ((spec_ParseExpression.f k t1239 t1240 t1243).bind fun bt1249 => (if bt1245.2 = bt1249.2 then (if bt1245.2 = 0 then ((impl_ExpressionText.f k t1239 t1240 bt1245.1).bind fun bt1253 => (if bt1253.2 = 0 then (if bt1253.1.toList = t1243.toList then ((impl_IsExpression.f k t1239 t1240 bt1245.1).bind fun t1255 => (if t1255 = true then (laws_FnExpressionTexts.j0 k l0) else (some false))) else (some false)) else (some false))) else (if (bt1245.1.length : Int) > 0 then (some false) else (laws_FnExpressionTexts.j0 k l0))) else (some false)))) = some r := H
  have A4 := Aside0.mk A40
  clear A40
  replace H := Option.bind_eq_some_iff.mp H
  obtain ⟨⟨t1245, t1248⟩, A50, H⟩ := H
  replace H : ((spec_ParseExpression.f k t1239 t1240 t1243).bind fun bt1249 => (if t1248 = bt1249.2 then (if t1248 = 0 then ((impl_ExpressionText.f k t1239 t1240 t1245).bind fun bt1253 => (if bt1253.2 = 0 then (if bt1253.1.toList = t1243.toList then ((impl_IsExpression.f k t1239 t1240 t1245).bind fun t1255 => (if t1255 = true then (laws_FnExpressionTexts.j0 k l0) else (some false))) else (some false)) else (some false))) else (if (t1245.length : Int) > 0 then (some false) else (laws_FnExpressionTexts.j0 k l0))) else (some false))) = some r := H
  have A5 := Aside0.mk A50
  clear A50
  replace H := Option.bind_eq_some_iff.mp H
  obtain ⟨⟨t1249, t1252⟩, A60, H⟩ := H
  replace H : (if t1248 = t1252 then (if t1248 = 0 then ((impl_ExpressionText.f k t1239 t1240 t1245).bind fun bt1253 => (if bt1253.2 = 0 then (if bt1253.1.toList = t1243.toList then ((impl_IsExpression.f k t1239 t1240 t1245).bind fun t1255 => (if t1255 = true then (laws_FnExpressionTexts.j0 k l0) else (some false))) else (some false)) else (some false))) else (if (t1245.length : Int) > 0 then (some false) else (laws_FnExpressionTexts.j0 k l0))) else (some false)) = some r := H
  have A6 := Aside0.mk A60
  clear A60
  by_cases c7 : t1248 = t1252
  ·rw [if_pos c7] at H
   have c7b0 : (t1248 == t1252) = true := beq_iff_eq.mpr c7
   have c7b1 : (t1248 != t1252) = false := bne_eq_false_iff_eq.mpr c7
   clear c7
   have HC8 := Aside0.mk H
   clear H
   go_enter Tryd.func10, Tryd.ntmps10
   go_upto_if 41 with (first | (go_at_call 49; (with_reducible refine (laws_big.calls _ _ l0 false _ ?side1 ?side2 A2.out).mono ?_); (case side1 => exact cP HR0.out); (case side2 => exact HC0.out); rintro e w' ⟨rfl, ⟨nd, rfl⟩⟩; (try first | exact ⟨rfl, _, World.drewN_drewN _ _ _⟩ | exact ⟨rfl, _, Eq.trans (World.drewN_drewN _ _ _) (congrArg (World.drewN _) (Nat.add_assoc _ _ _))⟩)) | (go_at_call 50; (with_reducible refine (spec_DrawParseExpression.calls k _ _ l0 t1239 t1240 t1243 _ ?side1 ?side2 A4.out).mono ?_); (case side1 => exact cP HR0.out); (case side2 => exact HC0.out); rintro e w9 ⟨v1241, rfl, ho0, hb⟩; have n0_ := Aside0.mk (Kd.R_lower ho0 (below_size (bW))); have n1_ := Aside0.mk (below_step (bW) hb); clear HB; have HO1242 := n0_; have HB := n1_; clear n0_ n1_; (try clear hb); (try clear hb2); (try clear hk); (try clear hi); (try clear ho0)) | ((with_reducible refine gate_dst (N := 3) rfl ?_); (try (refine gate_guard (by rfl) ?_; dsimp only)); refine boxS (N := 3) (cs := #[.int .i64 0, .slice none 0 0]) (t := 29) ?_; intro gb1244 hg w10 hbox hb; have n0_ := Aside0.mk (Kd.R_below (rP HO1242.out) hb); have n1_ := Aside0.mk (below_step (bW) hb); have n2_ := Aside0.mk (hbox); have n3_ := geW (w := w) hg; have n4_ := geW (w := w) hg; clear HO1242 HB; have HO1242 := n0_; have HB := n1_; have BK1244 := n2_; have GW1244 := n3_; have GE1244 := n4_; clear n0_ n1_ n2_ n3_ n4_ hb hbox hg; obtain ⟨hcz11_0, hcz11_1⟩ := cells2 BK1244.out; obtain ⟨hfz11_0, hfz11_1⟩ := frz2 BK1244.out; obtain ⟨Ao12, co12, eo12⟩ := Kd.R_slice HO1242.out; subst eo12) | (go_at_call 43; (with_reducible refine (impl_ParseExpression.calls k t1239 _ _ t1240 t1243 t1245 t1248 _ ?side1 ?side2 A5.out (tabW HTab.out)).mono ?_); (case side1 => refine (Kd.R_reads' (e := 2) (base := w.heap.size) (ok := fun k_ => True) (n := t1240.length) (c := co12) ?_).2.2; exact (by (with_reducible repeat (first | apply Kd.R_alloc | apply Kd.R_drewN | apply Kd.R_drew)); exact (Kd.R_mono (Kd.R_far (p := ⟨gb1244, 1, none⟩) (Kd.R_far (p := ⟨gb1244, 0, none⟩) (Kd.R_types HO1242.out BK1244.out (by decide)) (fun _ hk => hk.2) (.int .i64 t1239)) (fun _ hk => hk.2) (.slice Ao12 t1240.length co12)) (fun _ h_ => h_.1)))); (case side2 => exact (Kd.R_reads' HO1242.out).2.1); rintro e w13 ⟨v1246, rfl, ho0, hb⟩; have n0_ := Aside0.mk (Kd.R_below (by (with_reducible repeat (first | apply Kd.R_alloc | apply Kd.R_drewN | apply Kd.R_drew)); exact (Kd.R_mono (Kd.R_far (p := ⟨gb1244, 1, none⟩) (Kd.R_far (p := ⟨gb1244, 0, none⟩) (Kd.R_types HO1242.out BK1244.out (by decide)) (fun _ hk => hk.2) (.int .i64 t1239)) (fun _ hk => hk.2) (.slice Ao12 t1240.length co12)) (fun _ h_ => h_.1))) hb); have n1_ := Aside0.mk (Kd.R_lower ho0 (below_size (bW))); have n2_ := Aside0.mk (blk_below (g := gb1244) (o := .cells #[.int .i64 t1239, .slice Ao12 t1240.length co12] 29 (0, 0)) (by (with_reducible repeat (first | refine blk_drewN ?_ _ | refine blk_drew ?_ | refine blk_alloc ?_ _)); refine blk_put (cs := #[.int .i64 t1239, .slice none 0 0]) ?_ 1 _ rfl; (with_reducible repeat (first | refine blk_drewN ?_ _ | refine blk_drew ?_ | refine blk_alloc ?_ _)); refine blk_put (cs := #[.int .i64 0, .slice none 0 0]) ?_ 0 _ rfl; exact bP BK1244.out) hb); have n3_ := Aside0.mk (below_step (bW) hb); clear HO1242 BK1244 HB; have HO1242 := n0_; have HO1247 := n1_; have BK1244 := n2_; have HB := n3_; clear n0_ n1_ n2_ n3_; (try clear hb); (try clear hb2); (try clear hk); (try clear hi); (try clear ho0); obtain ⟨hcz14_0, hcz14_1⟩ := cells2 BK1244.out; obtain ⟨hfz14_0, hfz14_1⟩ := frz2 BK1244.out) | (go_at_call 42; (with_reducible refine (spec_ParseExpression.calls k t1239 _ _ t1240 t1243 t1249 t1252 _ ?side1 ?side2 A6.out).mono ?_); (case side1 => exact cP ((Kd.R_reads' HO1242.out).2.2)); (case side2 => exact (Kd.R_reads' HO1242.out).2.1); rintro e w15 ⟨v1250, rfl, ho0, hb⟩; have n0_ := Aside0.mk (Kd.R_below (rP HO1242.out) hb); have n1_ := Aside0.mk (Kd.R_elder' (rP HO1247.out) (Kd.R_base ho0) hb); have n2_ := Aside0.mk (Kd.R_lower (Kd.R_new' ho0 (Kd.R_lt (rP HO1247.out))) (below_size (bW))); have n3_ := Aside0.mk (blkB BK1244.out hb); have n4_ := Aside0.mk (below_step (bW) hb); clear HO1242 HO1247 BK1244 HB; have HO1242 := n0_; have HO1247 := n1_; have HO1251 := n2_; have BK1244 := n3_; have HB := n4_; clear n0_ n1_ n2_ n3_ n4_; (try clear hb); (try clear hb2); (try clear hk); (try clear hi); (try clear ho0)))
   repeat (go_quiet (first | (go_at_call 49; (with_reducible refine (laws_big.calls _ _ l0 false _ ?side1 ?side2 A2.out).mono ?_); (case side1 => exact cP HR0.out); (case side2 => exact HC0.out); rintro e w' ⟨rfl, ⟨nd, rfl⟩⟩; (try first | exact ⟨rfl, _, World.drewN_drewN _ _ _⟩ | exact ⟨rfl, _, Eq.trans (World.drewN_drewN _ _ _) (congrArg (World.drewN _) (Nat.add_assoc _ _ _))⟩)) | (go_at_call 50; (with_reducible refine (spec_DrawParseExpression.calls k _ _ l0 t1239 t1240 t1243 _ ?side1 ?side2 A4.out).mono ?_); (case side1 => exact cP HR0.out); (case side2 => exact HC0.out); rintro e w9 ⟨v1241, rfl, ho0, hb⟩; have n0_ := Aside0.mk (Kd.R_lower ho0 (below_size (bW))); have n1_ := Aside0.mk (below_step (bW) hb); clear HB; have HO1242 := n0_; have HB := n1_; clear n0_ n1_; (try clear hb); (try clear hb2); (try clear hk); (try clear hi); (try clear ho0)) | ((with_reducible refine gate_dst (N := 3) rfl ?_); (try (refine gate_guard (by rfl) ?_; dsimp only)); refine boxS (N := 3) (cs := #[.int .i64 0, .slice none 0 0]) (t := 29) ?_; intro gb1244 hg w10 hbox hb; have n0_ := Aside0.mk (Kd.R_below (rP HO1242.out) hb); have n1_ := Aside0.mk (below_step (bW) hb); have n2_ := Aside0.mk (hbox); have n3_ := geW (w := w) hg; have n4_ := geW (w := w) hg; clear HO1242 HB; have HO1242 := n0_; have HB := n1_; have BK1244 := n2_; have GW1244 := n3_; have GE1244 := n4_; clear n0_ n1_ n2_ n3_ n4_ hb hbox hg; obtain ⟨hcz11_0, hcz11_1⟩ := cells2 BK1244.out; obtain ⟨hfz11_0, hfz11_1⟩ := frz2 BK1244.out; obtain ⟨Ao12, co12, eo12⟩ := Kd.R_slice HO1242.out; subst eo12) | (go_at_call 43; (with_reducible refine (impl_ParseExpression.calls k t1239 _ _ t1240 t1243 t1245 t1248 _ ?side1 ?side2 A5.out (tabW HTab.out)).mono ?_); (case side1 => refine (Kd.R_reads' (e := 2) (base := w.heap.size) (ok := fun k_ => True) (n := t1240.length) (c := co12) ?_).2.2; exact (by (with_reducible repeat (first | apply Kd.R_alloc | apply Kd.R_drewN | apply Kd.R_drew)); exact (Kd.R_mono (Kd.R_far (p := ⟨gb1244, 1, none⟩) (Kd.R_far (p := ⟨gb1244, 0, none⟩) (Kd.R_types HO1242.out BK1244.out (by decide)) (fun _ hk => hk.2) (.int .i64 t1239)) (fun _ hk => hk.2) (.slice Ao12 t1240.length co12)) (fun _ h_ => h_.1)))); (case side2 => exact (Kd.R_reads' HO1242.out).2.1); rintro e w13 ⟨v1246, rfl, ho0, hb⟩; have n0_ := Aside0.mk (Kd.R_below (by (with_reducible repeat (first | apply Kd.R_alloc | apply Kd.R_drewN | apply Kd.R_drew)); exact (Kd.R_mono (Kd.R_far (p := ⟨gb1244, 1, none⟩) (Kd.R_far (p := ⟨gb1244, 0, none⟩) (Kd.R_types HO1242.out BK1244.out (by decide)) (fun _ hk => hk.2) (.int .i64 t1239)) (fun _ hk => hk.2) (.slice Ao12 t1240.length co12)) (fun _ h_ => h_.1))) hb); have n1_ := Aside0.mk (Kd.R_lower ho0 (below_size (bW))); have n2_ := Aside0.mk (blk_below (g := gb1244) (o := .cells #[.int .i64 t1239, .slice Ao12 t1240.length co12] 29 (0, 0)) (by (with_reducible repeat (first | refine blk_drewN ?_ _ | refine blk_drew ?_ | refine blk_alloc ?_ _)); refine blk_put (cs := #[.int .i64 t1239, .slice none 0 0]) ?_ 1 _ rfl; (with_reducible repeat (first | refine blk_drewN ?_ _ | refine blk_drew ?_ | refine blk_alloc ?_ _)); refine blk_put (cs := #[.int .i64 0, .slice none 0 0]) ?_ 0 _ rfl; exact bP BK1244.out) hb); have n3_ := Aside0.mk (below_step (bW) hb); clear HO1242 BK1244 HB; have HO1242 := n0_; have HO1247 := n1_; have BK1244 := n2_; have HB := n3_; clear n0_ n1_ n2_ n3_; (try clear hb); (try clear hb2); (try clear hk); (try clear hi); (try clear ho0); obtain ⟨hcz14_0, hcz14_1⟩ := cells2 BK1244.out; obtain ⟨hfz14_0, hfz14_1⟩ := frz2 BK1244.out) | (go_at_call 42; (with_reducible refine (spec_ParseExpression.calls k t1239 _ _ t1240 t1243 t1249 t1252 _ ?side1 ?side2 A6.out).mono ?_); (case side1 => exact cP ((Kd.R_reads' HO1242.out).2.2)); (case side2 => exact (Kd.R_reads' HO1242.out).2.1); rintro e w15 ⟨v1250, rfl, ho0, hb⟩; have n0_ := Aside0.mk (Kd.R_below (rP HO1242.out) hb); have n1_ := Aside0.mk (Kd.R_elder' (rP HO1247.out) (Kd.R_base ho0) hb); have n2_ := Aside0.mk (Kd.R_lower (Kd.R_new' ho0 (Kd.R_lt (rP HO1247.out))) (below_size (bW))); have n3_ := Aside0.mk (blkB BK1244.out hb); have n4_ := Aside0.mk (below_step (bW) hb); clear HO1242 HO1247 BK1244 HB; have HO1242 := n0_; have HO1247 := n1_; have HO1251 := n2_; have BK1244 := n3_; have HB := n4_; clear n0_ n1_ n2_ n3_ n4_; (try clear hb); (try clear hb2); (try clear hk); (try clear hi); (try clear ho0))); go_upto_if 41 with (first | (go_at_call 49; (with_reducible refine (laws_big.calls _ _ l0 false _ ?side1 ?side2 A2.out).mono ?_); (case side1 => exact cP HR0.out); (case side2 => exact HC0.out); rintro e w' ⟨rfl, ⟨nd, rfl⟩⟩; (try first | exact ⟨rfl, _, World.drewN_drewN _ _ _⟩ | exact ⟨rfl, _, Eq.trans (World.drewN_drewN _ _ _) (congrArg (World.drewN _) (Nat.add_assoc _ _ _))⟩)) | (go_at_call 50; (with_reducible refine (spec_DrawParseExpression.calls k _ _ l0 t1239 t1240 t1243 _ ?side1 ?side2 A4.out).mono ?_); (case side1 => exact cP HR0.out); (case side2 => exact HC0.out); rintro e w9 ⟨v1241, rfl, ho0, hb⟩; have n0_ := Aside0.mk (Kd.R_lower ho0 (below_size (bW))); have n1_ := Aside0.mk (below_step (bW) hb); clear HB; have HO1242 := n0_; have HB := n1_; clear n0_ n1_; (try clear hb); (try clear hb2); (try clear hk); (try clear hi); (try clear ho0)) | ((with_reducible refine gate_dst (N := 3) rfl ?_); (try (refine gate_guard (by rfl) ?_; dsimp only)); refine boxS (N := 3) (cs := #[.int .i64 0, .slice none 0 0]) (t := 29) ?_; intro gb1244 hg w10 hbox hb; have n0_ := Aside0.mk (Kd.R_below (rP HO1242.out) hb); have n1_ := Aside0.mk (below_step (bW) hb); have n2_ := Aside0.mk (hbox); have n3_ := geW (w := w) hg; have n4_ := geW (w := w) hg; clear HO1242 HB; have HO1242 := n0_; have HB := n1_; have BK1244 := n2_; have GW1244 := n3_; have GE1244 := n4_; clear n0_ n1_ n2_ n3_ n4_ hb hbox hg; obtain ⟨hcz11_0, hcz11_1⟩ := cells2 BK1244.out; obtain ⟨hfz11_0, hfz11_1⟩ := frz2 BK1244.out; obtain ⟨Ao12, co12, eo12⟩ := Kd.R_slice HO1242.out; subst eo12) | (go_at_call 43; (with_reducible refine (impl_ParseExpression.calls k t1239 _ _ t1240 t1243 t1245 t1248 _ ?side1 ?side2 A5.out (tabW HTab.out)).mono ?_); (case side1 => refine (Kd.R_reads' (e := 2) (base := w.heap.size) (ok := fun k_ => True) (n := t1240.length) (c := co12) ?_).2.2; exact (by (with_reducible repeat (first | apply Kd.R_alloc | apply Kd.R_drewN | apply Kd.R_drew)); exact (Kd.R_mono (Kd.R_far (p := ⟨gb1244, 1, none⟩) (Kd.R_far (p := ⟨gb1244, 0, none⟩) (Kd.R_types HO1242.out BK1244.out (by decide)) (fun _ hk => hk.2) (.int .i64 t1239)) (fun _ hk => hk.2) (.slice Ao12 t1240.length co12)) (fun _ h_ => h_.1)))); (case side2 => exact (Kd.R_reads' HO1242.out).2.1); rintro e w13 ⟨v1246, rfl, ho0, hb⟩; have n0_ := Aside0.mk (Kd.R_below (by (with_reducible repeat (first | apply Kd.R_alloc | apply Kd.R_drewN | apply Kd.R_drew)); exact (Kd.R_mono (Kd.R_far (p := ⟨gb1244, 1, none⟩) (Kd.R_far (p := ⟨gb1244, 0, none⟩) (Kd.R_types HO1242.out BK1244.out (by decide)) (fun _ hk => hk.2) (.int .i64 t1239)) (fun _ hk => hk.2) (.slice Ao12 t1240.length co12)) (fun _ h_ => h_.1))) hb); have n1_ := Aside0.mk (Kd.R_lower ho0 (below_size (bW))); have n2_ := Aside0.mk (blk_below (g := gb1244) (o := .cells #[.int .i64 t1239, .slice Ao12 t1240.length co12] 29 (0, 0)) (by (with_reducible repeat (first | refine blk_drewN ?_ _ | refine blk_drew ?_ | refine blk_alloc ?_ _)); refine blk_put (cs := #[.int .i64 t1239, .slice none 0 0]) ?_ 1 _ rfl; (with_reducible repeat (first | refine blk_drewN ?_ _ | refine blk_drew ?_ | refine blk_alloc ?_ _)); refine blk_put (cs := #[.int .i64 0, .slice none 0 0]) ?_ 0 _ rfl; exact bP BK1244.out) hb); have n3_ := Aside0.mk (below_step (bW) hb); clear HO1242 BK1244 HB; have HO1242 := n0_; have HO1247 := n1_; have BK1244 := n2_; have HB := n3_; clear n0_ n1_ n2_ n3_; (try clear hb); (try clear hb2); (try clear hk); (try clear hi); (try clear ho0); obtain ⟨hcz14_0, hcz14_1⟩ := cells2 BK1244.out; obtain ⟨hfz14_0, hfz14_1⟩ := frz2 BK1244.out) | (go_at_call 42; (with_reducible refine (spec_ParseExpression.calls k t1239 _ _ t1240 t1243 t1249 t1252 _ ?side1 ?side2 A6.out).mono ?_); (case side1 => exact cP ((Kd.R_reads' HO1242.out).2.2)); (case side2 => exact (Kd.R_reads' HO1242.out).2.1); rintro e w15 ⟨v1250, rfl, ho0, hb⟩; have n0_ := Aside0.mk (Kd.R_below (rP HO1242.out) hb); have n1_ := Aside0.mk (Kd.R_elder' (rP HO1247.out) (Kd.R_base ho0) hb); have n2_ := Aside0.mk (Kd.R_lower (Kd.R_new' ho0 (Kd.R_lt (rP HO1247.out))) (below_size (bW))); have n3_ := Aside0.mk (blkB BK1244.out hb); have n4_ := Aside0.mk (below_step (bW) hb); clear HO1242 HO1247 BK1244 HB; have HO1242 := n0_; have HO1247 := n1_; have HO1251 := n2_; have BK1244 := n3_; have HB := n4_; clear n0_ n1_ n2_ n3_ n4_; (try clear hb); (try clear hb2); (try clear hk); (try clear hi); (try clear ho0))))
   (try simp only [Act.put, List.setIfInBounds_toArray, List.set_cons_zero, List.set_cons_succ])
   go_cut [] (fun wc => ∃ (kq : Nat), Aside0 (laws_FnExpressionTexts.j0 kq l0 = some r) ∧ Aside0 (kq ≤ k) ∧ Aside0 (Kd.R (Kd.int .i64) 2 wc w.heap.size (fun _ => True) (.slice Ao12 t1240.length co12) t1240) ∧ Aside0 (wc.heap[gb1244]? = some (.cells #[.int .i64 t1239, (.slice Ao12 t1240.length co12)] 29 (0, 0))) ∧ Aside0 (Below w.heap.size w wc))
   case first =>
    have H := HC8.out
    clear HC8
    by_cases c16 : t1248 = 0
    ·rw [if_pos c16] at H
     have c16b0 : (t1248 == 0) = true := beq_iff_eq.mpr c16
     have c16b1 : (t1248 != 0) = false := bne_eq_false_iff_eq.mpr c16
     clear c16
     (first | rw [c16b0] | (simp only [i64_w, i32_w]; rw [c16b0]) | skip)
     replace H := Option.bind_eq_some_iff.mp H
     obtain ⟨⟨t1253, t1254⟩, A170, H⟩ := H
     replace H : (if t1254 = 0 then (if t1253.toList = t1243.toList then ((impl_IsExpression.f k t1239 t1240 t1245).bind fun t1255 => (if t1255 = true then (laws_FnExpressionTexts.j0 k l0) else (some false))) else (some false)) else (some false)) = some r := H
     have A17 := Aside0.mk A170
     clear A170
     by_cases c18 : t1254 = 0
     ·rw [if_pos c18] at H
      have c18b0 : (t1254 == 0) = true := beq_iff_eq.mpr c18
      have c18b1 : (t1254 != 0) = false := bne_eq_false_iff_eq.mpr c18
      clear c18
      by_cases c19 : t1253.toList = t1243.toList
      ·rw [if_pos c19] at H
       have c19b0 : (t1253.toList == t1243.toList) = true := beq_iff_eq.mpr c19
       have c19b1 : (t1253.toList != t1243.toList) = false := bne_eq_false_iff_eq.mpr c19
       clear c19
       replace H := Option.bind_eq_some_iff.mp H
       obtain ⟨t1255, A200, H⟩ := H
       replace H : (if t1255 = true then (laws_FnExpressionTexts.j0 k l0) else (some false)) = some r := H
       have A20 := Aside0.mk A200
       clear A200
       by_cases c21 : t1255 = true
       ·subst c21
        have H1 : (laws_FnExpressionTexts.j0 k l0) = some r := by rw [if_pos rfl] at H; exact H
        clear H
        have H := H1
        clear H1
        have H' := Aside0.mk H
        clear H
        have hcz22_0 : w15.cell? ⟨gb1244, 0, none⟩ = some (.int .i64 t1239) := (blk_cell BK1244.out 0).trans rfl
        have hcz22_1 : w15.cell? ⟨gb1244, 1, none⟩ = some (.slice Ao12 t1240.length co12) := (blk_cell BK1244.out 1).trans rfl
        have hfz22_0 := blk_frozen BK1244.out 0
        have hfz22_1 := blk_frozen BK1244.out 1
        obtain ⟨Ao23, co23, eo23⟩ := Kd.R_slice HO1247.out
        subst eo23
        go_wp2_with (first | (go_at_call 23; (with_reducible refine (impl_ExpressionText.calls k t1239 _ _ t1240 _ _ t1245 t1253 t1254 _ ?side1 ?side2 ?side3 ?side4 A17.out (tabW HTab.out)).mono ?_); (case side1 => exact cP ((Kd.R_reads' HO1242.out).2.2)); (case side2 => exact (Kd.R_reads' HO1242.out).2.1); (case side3 => exact cP ((Kd.R_reads' HO1247.out).2.2)); (case side4 => exact (Kd.R_reads' HO1247.out).2.1); rintro e w24 ⟨rfl, hb⟩; have n0_ := Aside0.mk (Kd.R_below (rP HO1242.out) hb); have n1_ := Aside0.mk (Kd.R_below (rP HO1247.out) hb); have n2_ := Aside0.mk (Kd.R_below (rP HO1251.out) hb); have n3_ := Aside0.mk (blkB BK1244.out hb); have n4_ := Aside0.mk (below_step (bW) hb); clear HO1242 HO1247 HO1251 BK1244 HB; have HO1242 := n0_; have HO1247 := n1_; have HO1251 := n2_; have BK1244 := n3_; have HB := n4_; clear n0_ n1_ n2_ n3_ n4_; (try clear hb); (try clear hb2); (try clear hk); (try clear hi); obtain ⟨hcz25_0, hcz25_1⟩ := cells2 BK1244.out; obtain ⟨hfz25_0, hfz25_1⟩ := frz2 BK1244.out) | (go_at_call 51; (with_reducible refine (impl_IsExpression.calls k t1239 _ _ t1240 _ _ t1245 true _ ?side1 ?side2 ?side3 ?side4 A20.out (tabW HTab.out)).mono ?_); (case side1 => exact cP ((Kd.R_reads' HO1242.out).2.2)); (case side2 => exact (Kd.R_reads' HO1242.out).2.1); (case side3 => exact cP ((Kd.R_reads' HO1247.out).2.2)); (case side4 => exact (Kd.R_reads' HO1247.out).2.1); rintro e w26 ⟨rfl, hb⟩; have n0_ := Aside0.mk (Kd.R_below (rP HO1242.out) hb); have n1_ := Aside0.mk (Kd.R_below (rP HO1247.out) hb); have n2_ := Aside0.mk (Kd.R_below (rP HO1251.out) hb); have n3_ := Aside0.mk (blkB BK1244.out hb); have n4_ := Aside0.mk (below_step (bW) hb); clear HO1242 HO1247 HO1251 BK1244 HB; have HO1242 := n0_; have HO1247 := n1_; have HO1251 := n2_; have BK1244 := n3_; have HB := n4_; clear n0_ n1_ n2_ n3_ n4_; (try clear hb); (try clear hb2); (try clear hk); (try clear hi)))
        repeat (go_quiet (first | (go_at_call 23; (with_reducible refine (impl_ExpressionText.calls k t1239 _ _ t1240 _ _ t1245 t1253 t1254 _ ?side1 ?side2 ?side3 ?side4 A17.out (tabW HTab.out)).mono ?_); (case side1 => exact cP ((Kd.R_reads' HO1242.out).2.2)); (case side2 => exact (Kd.R_reads' HO1242.out).2.1); (case side3 => exact cP ((Kd.R_reads' HO1247.out).2.2)); (case side4 => exact (Kd.R_reads' HO1247.out).2.1); rintro e w24 ⟨rfl, hb⟩; have n0_ := Aside0.mk (Kd.R_below (rP HO1242.out) hb); have n1_ := Aside0.mk (Kd.R_below (rP HO1247.out) hb); have n2_ := Aside0.mk (Kd.R_below (rP HO1251.out) hb); have n3_ := Aside0.mk (blkB BK1244.out hb); have n4_ := Aside0.mk (below_step (bW) hb); clear HO1242 HO1247 HO1251 BK1244 HB; have HO1242 := n0_; have HO1247 := n1_; have HO1251 := n2_; have BK1244 := n3_; have HB := n4_; clear n0_ n1_ n2_ n3_ n4_; (try clear hb); (try clear hb2); (try clear hk); (try clear hi); obtain ⟨hcz25_0, hcz25_1⟩ := cells2 BK1244.out; obtain ⟨hfz25_0, hfz25_1⟩ := frz2 BK1244.out) | (go_at_call 51; (with_reducible refine (impl_IsExpression.calls k t1239 _ _ t1240 _ _ t1245 true _ ?side1 ?side2 ?side3 ?side4 A20.out (tabW HTab.out)).mono ?_); (case side1 => exact cP ((Kd.R_reads' HO1242.out).2.2)); (case side2 => exact (Kd.R_reads' HO1242.out).2.1); (case side3 => exact cP ((Kd.R_reads' HO1247.out).2.2)); (case side4 => exact (Kd.R_reads' HO1247.out).2.1); rintro e w26 ⟨rfl, hb⟩; have n0_ := Aside0.mk (Kd.R_below (rP HO1242.out) hb); have n1_ := Aside0.mk (Kd.R_below (rP HO1247.out) hb); have n2_ := Aside0.mk (Kd.R_below (rP HO1251.out) hb); have n3_ := Aside0.mk (blkB BK1244.out hb); have n4_ := Aside0.mk (below_step (bW) hb); clear HO1242 HO1247 HO1251 BK1244 HB; have HO1242 := n0_; have HO1247 := n1_; have HO1251 := n2_; have BK1244 := n3_; have HB := n4_; clear n0_ n1_ n2_ n3_ n4_; (try clear hb); (try clear hb2); (try clear hk); (try clear hi))); try go_wp2_with (first | (go_at_call 23; (with_reducible refine (impl_ExpressionText.calls k t1239 _ _ t1240 _ _ t1245 t1253 t1254 _ ?side1 ?side2 ?side3 ?side4 A17.out (tabW HTab.out)).mono ?_); (case side1 => exact cP ((Kd.R_reads' HO1242.out).2.2)); (case side2 => exact (Kd.R_reads' HO1242.out).2.1); (case side3 => exact cP ((Kd.R_reads' HO1247.out).2.2)); (case side4 => exact (Kd.R_reads' HO1247.out).2.1); rintro e w24 ⟨rfl, hb⟩; have n0_ := Aside0.mk (Kd.R_below (rP HO1242.out) hb); have n1_ := Aside0.mk (Kd.R_below (rP HO1247.out) hb); have n2_ := Aside0.mk (Kd.R_below (rP HO1251.out) hb); have n3_ := Aside0.mk (blkB BK1244.out hb); have n4_ := Aside0.mk (below_step (bW) hb); clear HO1242 HO1247 HO1251 BK1244 HB; have HO1242 := n0_; have HO1247 := n1_; have HO1251 := n2_; have BK1244 := n3_; have HB := n4_; clear n0_ n1_ n2_ n3_ n4_; (try clear hb); (try clear hb2); (try clear hk); (try clear hi); obtain ⟨hcz25_0, hcz25_1⟩ := cells2 BK1244.out; obtain ⟨hfz25_0, hfz25_1⟩ := frz2 BK1244.out) | (go_at_call 51; (with_reducible refine (impl_IsExpression.calls k t1239 _ _ t1240 _ _ t1245 true _ ?side1 ?side2 ?side3 ?side4 A20.out (tabW HTab.out)).mono ?_); (case side1 => exact cP ((Kd.R_reads' HO1242.out).2.2)); (case side2 => exact (Kd.R_reads' HO1242.out).2.1); (case side3 => exact cP ((Kd.R_reads' HO1247.out).2.2)); (case side4 => exact (Kd.R_reads' HO1247.out).2.1); rintro e w26 ⟨rfl, hb⟩; have n0_ := Aside0.mk (Kd.R_below (rP HO1242.out) hb); have n1_ := Aside0.mk (Kd.R_below (rP HO1247.out) hb); have n2_ := Aside0.mk (Kd.R_below (rP HO1251.out) hb); have n3_ := Aside0.mk (blkB BK1244.out hb); have n4_ := Aside0.mk (below_step (bW) hb); clear HO1242 HO1247 HO1251 BK1244 HB; have HO1242 := n0_; have HO1247 := n1_; have HO1251 := n2_; have BK1244 := n3_; have HB := n4_; clear n0_ n1_ n2_ n3_ n4_; (try clear hb); (try clear hb2); (try clear hk); (try clear hi))))
        go_meet
        case rel => exact ⟨_, H', ⟨by first | omega | exact Nat.le_refl _⟩, ⟨(rP HO1242.out)⟩, ⟨(bP BK1244.out)⟩, ⟨bW⟩⟩
       ·replace c21 := Bool.eq_false_iff.mpr c21
        subst c21
        have H1 : (some false) = some r := by rw [if_neg (show ¬ (false = true) by decide)] at H; exact H
        clear H
        have H := H1
        clear H1
        exact absurd (Option.some.inj H) (by rw [HTr_.out]; decide)
      ·rw [if_neg c19] at H
       have c19b0 : (t1253.toList == t1243.toList) = false := beq_eq_false_iff_ne.mpr c19
       have c19b1 : (t1253.toList != t1243.toList) = true := bne_iff_ne.mpr c19
       exact absurd (Option.some.inj H) (by rw [HTr_.out]; decide)
     ·rw [if_neg c18] at H
      have c18b0 : (t1254 == 0) = false := beq_eq_false_iff_ne.mpr c18
      have c18b1 : (t1254 != 0) = true := bne_iff_ne.mpr c18
      exact absurd (Option.some.inj H) (by rw [HTr_.out]; decide)
    ·rw [if_neg c16] at H
     have c16b0 : (t1248 == 0) = false := beq_eq_false_iff_ne.mpr c16
     have c16b1 : (t1248 != 0) = true := bne_iff_ne.mpr c16
     (first | rw [c16b0] | (simp only [i64_w, i32_w]; rw [c16b0]) | skip)
     by_cases c27 : (t1245.length : Int) > 0
     ·rw [if_pos c27] at H
      have c27b0 : decide (0 < (t1245.length : Int)) = true := decide_eq_true c27
      have c27b1 : decide (0 < t1245.length) = true := decide_eq_true (by omega)
      clear c27
      exact absurd (Option.some.inj H) (by rw [HTr_.out]; decide)
     ·rw [if_neg c27] at H
      have c27b0 : decide (0 < (t1245.length : Int)) = false := decide_eq_false c27
      have c27b1 : decide (0 < t1245.length) = false := decide_eq_false (by omega)
      clear c27
      have H' := Aside0.mk H
      clear H
      obtain ⟨Ao28, co28, eo28⟩ := Kd.R_slice HO1247.out
      subst eo28
      go_wp2
      repeat (go_quiet (fail); try go_wp2)
      go_meet
      case rel => exact ⟨_, H', ⟨by first | omega | exact Nat.le_refl _⟩, ⟨(rP HO1242.out)⟩, ⟨(bP BK1244.out)⟩, ⟨bW⟩⟩
   case rest =>
    clear HC8
    try clear c1
    try clear c2
    try clear p2
    try clear c3
    try clear c7
    try clear c7b0
    try clear c7b1
    try clear c10
    try clear c16
    try clear c16b0
    try clear c16b1
    try clear c18
    try clear c18b0
    try clear c18b1
    try clear c19
    try clear c19b0
    try clear c19b1
    try clear c21
    try clear c27
    try clear c27b0
    try clear c27b1
    try clear hcz11_0
    try clear hcz11_1
    try clear hcz14_0
    try clear hcz14_1
    try clear hcz22_0
    try clear hcz22_1
    try clear hcz25_0
    try clear hcz25_1
    try clear hfz11_0
    try clear hfz11_1
    try clear hfz14_0
    try clear hfz14_1
    try clear hfz22_0
    try clear hfz22_1
    try clear hfz25_0
    try clear hfz25_1
    obtain ⟨kq, HA, HJ7, HO_1245001, BK1244, HB⟩ := hcut
    cases kq with
    | zero => exact absurd HA.out (by simp [laws_FnExpressionTexts.j0])
    | succ kj7 =>
     have H := HA.out
     clear HA
     simp only [laws_FnExpressionTexts.j0] at H
     replace H := Option.bind_eq_some_iff.mp H
     obtain ⟨⟨t1256, t1257, t1260⟩, A290, H⟩ := H
     replace H : ((impl_ExpressionText.f kj7 t1256 t1257 t1260).bind fun bt1264 => ((impl_IsExpression.f kj7 t1256 t1257 t1260).bind fun t1266 => (if t1266 = true then ((impl_ParseExpression.f kj7 t1256 t1257 bt1264.1).bind fun bt1267 => (if bt1264.2 = 0 then (if bt1267.2 = 0 then (laws_FnExpressionTexts.j1 kj7 t1260 bt1267.1 ((bt1267.1.length : Int) != (t1260.length : Int))) else (laws_FnExpressionTexts.j1 kj7 t1260 bt1267.1 true)) else (laws_FnExpressionTexts.j1 kj7 t1260 bt1267.1 true))) else (if bt1264.2 = 1 then (some (bt1264.1.toList == ([] : List UInt8))) else (some false))))) = some r := H
     have A29 := Aside0.mk A290
     clear A290
     replace H := Option.bind_eq_some_iff.mp H
     obtain ⟨⟨t1264, t1265⟩, A300, H⟩ := H
     replace H : ((impl_IsExpression.f kj7 t1256 t1257 t1260).bind fun t1266 => (if t1266 = true then ((impl_ParseExpression.f kj7 t1256 t1257 t1264).bind fun bt1267 => (if t1265 = 0 then (if bt1267.2 = 0 then (laws_FnExpressionTexts.j1 kj7 t1260 bt1267.1 ((bt1267.1.length : Int) != (t1260.length : Int))) else (laws_FnExpressionTexts.j1 kj7 t1260 bt1267.1 true)) else (laws_FnExpressionTexts.j1 kj7 t1260 bt1267.1 true))) else (if t1265 = 1 then (some (t1264.toList == ([] : List UInt8))) else (some false)))) = some r := H
     have A30 := Aside0.mk A300
     clear A300
     replace H := Option.bind_eq_some_iff.mp H
     obtain ⟨t1266, A310, H⟩ := H
     replace H : (if t1266 = true then ((impl_ParseExpression.f kj7 t1256 t1257 t1264).bind fun bt1267 => (if t1265 = 0 then (if bt1267.2 = 0 then (laws_FnExpressionTexts.j1 kj7 t1260 bt1267.1 ((bt1267.1.length : Int) != (t1260.length : Int))) else (laws_FnExpressionTexts.j1 kj7 t1260 bt1267.1 true)) else (laws_FnExpressionTexts.j1 kj7 t1260 bt1267.1 true))) else (if t1265 = 1 then (some (t1264.toList == ([] : List UInt8))) else (some false))) = some r := H
     have A31 := Aside0.mk A310
     clear A310
     by_cases c32 : t1266 = true
     ·subst c32
      have H1 : ((impl_ParseExpression.f kj7 t1256 t1257 t1264).bind fun bt1267 => (if t1265 = 0 then (if bt1267.2 = 0 then (laws_FnExpressionTexts.j1 kj7 t1260 bt1267.1 ((bt1267.1.length : Int) != (t1260.length : Int))) else (laws_FnExpressionTexts.j1 kj7 t1260 bt1267.1 true)) else (laws_FnExpressionTexts.j1 kj7 t1260 bt1267.1 true))) = some r := by rw [if_pos rfl] at H; exact H
      clear H
      have H := H1
      clear H1
      replace H := Option.bind_eq_some_iff.mp H
      obtain ⟨⟨t1267, t1270⟩, A330, H⟩ := H
      replace H : (if t1265 = 0 then (if t1270 = 0 then (laws_FnExpressionTexts.j1 kj7 t1260 t1267 ((t1267.length : Int) != (t1260.length : Int))) else (laws_FnExpressionTexts.j1 kj7 t1260 t1267 true)) else (laws_FnExpressionTexts.j1 kj7 t1260 t1267 true)) = some r := H
      have A33 := Aside0.mk A330
      clear A330
      have HC34 := Aside0.mk H
      clear H
      go_upto_region 19 with (first | (go_at_call 52; (with_reducible refine (spec_DrawExpressionText.calls kj7 _ _ l0 t1256 t1257 t1260 _ ?side1 ?side2 A29.out).mono ?_); (case side1 => exact cP (Kd.C_below HR0.out HB.out)); (case side2 => exact HC0.out); rintro e w35 ⟨v1258, v1261, rfl, ho0, ho1, hb⟩; have n0_ := Aside0.mk (Kd.R_elder' (rP HO_1245001.out) (Kd.R_base ho0) hb); have n1_ := Aside0.mk (Kd.R_lower (Kd.R_new' ho0 (Kd.R_lt (rP HO_1245001.out))) (below_size (bW))); have n2_ := Aside0.mk (Kd.R_lower ho1 (below_size (bW))); have n3_ := Aside0.mk (blkB BK1244.out hb); have n4_ := Aside0.mk (below_step (bW) hb); clear HO_1245001 BK1244 HB; have HO_1245001 := n0_; have HO1259 := n1_; have HO1262 := n2_; have BK1244 := n3_; have HB := n4_; clear n0_ n1_ n2_ n3_ n4_; (try clear hb); (try clear hb2); (try clear hk); (try clear hi); (try clear ho0); (try clear ho1)) | ((with_reducible refine gate_dst (N := 11) rfl ?_); (try (refine gate_guard (by rfl) ?_; dsimp only)); refine boxS (N := 11) (cs := #[.int .i64 0, .slice none 0 0]) (t := 29) ?_; intro gb1263 hg w36 hbox hb; have n0_ := Aside0.mk (Kd.R_below (rP HO_1245001.out) hb); have n1_ := Aside0.mk (Kd.R_below (rP HO1259.out) hb); have n2_ := Aside0.mk (Kd.R_below (rP HO1262.out) hb); have n3_ := Aside0.mk (blkB BK1244.out hb); have n4_ := Aside0.mk (below_step (bW) hb); have n5_ := Aside0.mk (hbox); have n6_ := geW (w := w) hg; have n7_ := geW (w := w) hg; have n8_ := Aside0.mk ((by rw [hg]; exact Nat.ne_of_lt (blk_lt (g := gb1244) (o := .cells #[.int .i64 t1239, .slice Ao12 t1240.length co12] 29 (0, 0)) (bP BK1244.out)) : gb1244 ≠ gb1263)); have n9_ := Aside0.mk ((by rw [hg]; exact Nat.ne_of_gt (blk_lt (g := gb1244) (o := .cells #[.int .i64 t1239, .slice Ao12 t1240.length co12] 29 (0, 0)) (bP BK1244.out)) : gb1263 ≠ gb1244)); clear HO_1245001 HO1259 HO1262 BK1244 HB; have HO_1245001 := n0_; have HO1259 := n1_; have HO1262 := n2_; have BK1244 := n3_; have HB := n4_; have BK1263 := n5_; have GW1263 := n6_; have GE1263 := n7_; have NB1244_1263 := n8_; have NB1263_1244 := n9_; clear n0_ n1_ n2_ n3_ n4_ n5_ n6_ n7_ n8_ n9_ hb hbox hg; have hnb37 := NB1263_1244.out; have hnc37 := NB1244_1263.out; obtain ⟨hcz38_0, hcz38_1⟩ := cells2 BK1263.out; obtain ⟨hfz38_0, hfz38_1⟩ := frz2 BK1263.out; obtain ⟨Ao39, co39, eo39⟩ := Kd.R_slice HO1259.out; subst eo39; obtain ⟨Ao40, co40, eo40⟩ := Kd.R_slice HO1262.out; subst eo40) | (go_at_call 23; (with_reducible refine (impl_ExpressionText.calls kj7 t1256 _ _ t1257 _ _ t1260 t1264 t1265 _ ?side1 ?side2 ?side3 ?side4 A30.out (tabW HTab.out)).mono ?_); (case side1 => refine (Kd.R_reads' (e := 2) (base := w.heap.size) (ok := fun k_ => (True ∧ some k_ ≠ (.slice Ao12 t1240.length co12 : Value).ownBlock)) (n := t1257.length) (c := co39) ?_).2.2; exact (by (with_reducible repeat (first | apply Kd.R_alloc | apply Kd.R_drewN | apply Kd.R_drew)); exact (Kd.R_mono (Kd.R_far (p := ⟨gb1263, 1, none⟩) (Kd.R_far (p := ⟨gb1263, 0, none⟩) (Kd.R_types HO1259.out BK1263.out (by decide)) (fun _ hk => hk.2) (.int .i64 t1256)) (fun _ hk => hk.2) (.slice Ao39 t1257.length co39)) (fun _ h_ => h_.1)))); (case side2 => exact (Kd.R_reads' HO1259.out).2.1); (case side3 => refine (Kd.R_reads' (e := 84) (base := w.heap.size) (ok := fun k_ => True) (n := t1260.length) (c := co40) ?_).2.2; exact (by (with_reducible repeat (first | apply Kd.R_alloc | apply Kd.R_drewN | apply Kd.R_drew)); exact (Kd.R_mono (Kd.R_far (p := ⟨gb1263, 1, none⟩) (Kd.R_far (p := ⟨gb1263, 0, none⟩) (Kd.R_types HO1262.out BK1263.out (by decide)) (fun _ hk => hk.2) (.int .i64 t1256)) (fun _ hk => hk.2) (.slice Ao39 t1257.length co39)) (fun _ h_ => h_.1)))); (case side4 => exact (Kd.R_reads' HO1262.out).2.1); rintro e w41 ⟨rfl, hb⟩; have n0_ := Aside0.mk (Kd.R_below (by (with_reducible repeat (first | apply Kd.R_alloc | apply Kd.R_drewN | apply Kd.R_drew)); exact (Kd.R_mono (Kd.R_far (p := ⟨gb1263, 1, none⟩) (Kd.R_far (p := ⟨gb1263, 0, none⟩) (Kd.R_types HO_1245001.out BK1263.out (by decide)) (fun _ hk => hk.2) (.int .i64 t1256)) (fun _ hk => hk.2) (.slice Ao39 t1257.length co39)) (fun _ h_ => h_.1))) hb); have n1_ := Aside0.mk (Kd.R_below (by (with_reducible repeat (first | apply Kd.R_alloc | apply Kd.R_drewN | apply Kd.R_drew)); exact (Kd.R_mono (Kd.R_far (p := ⟨gb1263, 1, none⟩) (Kd.R_far (p := ⟨gb1263, 0, none⟩) (Kd.R_types HO1259.out BK1263.out (by decide)) (fun _ hk => hk.2) (.int .i64 t1256)) (fun _ hk => hk.2) (.slice Ao39 t1257.length co39)) (fun _ h_ => h_.1))) hb); have n2_ := Aside0.mk (Kd.R_below (by (with_reducible repeat (first | apply Kd.R_alloc | apply Kd.R_drewN | apply Kd.R_drew)); exact (Kd.R_mono (Kd.R_far (p := ⟨gb1263, 1, none⟩) (Kd.R_far (p := ⟨gb1263, 0, none⟩) (Kd.R_types HO1262.out BK1263.out (by decide)) (fun _ hk => hk.2) (.int .i64 t1256)) (fun _ hk => hk.2) (.slice Ao39 t1257.length co39)) (fun _ h_ => h_.1))) hb); have n3_ := Aside0.mk (blk_below (g := gb1244) (o := .cells #[.int .i64 t1239, .slice Ao12 t1240.length co12] 29 (0, 0)) (by (with_reducible repeat (first | refine blk_drewN ?_ _ | refine blk_drew ?_ | refine blk_alloc ?_ _)); refine blk_far ?_ NB1244_1263.out _; (with_reducible repeat (first | refine blk_drewN ?_ _ | refine blk_drew ?_ | refine blk_alloc ?_ _)); refine blk_far ?_ NB1244_1263.out _; exact bP BK1244.out) hb); have n4_ := Aside0.mk (blk_below (g := gb1263) (o := .cells #[.int .i64 t1256, .slice Ao39 t1257.length co39] 29 (0, 0)) (by (with_reducible repeat (first | refine blk_drewN ?_ _ | refine blk_drew ?_ | refine blk_alloc ?_ _)); refine blk_put (cs := #[.int .i64 t1256, .slice none 0 0]) ?_ 1 _ rfl; (with_reducible repeat (first | refine blk_drewN ?_ _ | refine blk_drew ?_ | refine blk_alloc ?_ _)); refine blk_put (cs := #[.int .i64 0, .slice none 0 0]) ?_ 0 _ rfl; exact bP BK1263.out) hb); have n5_ := Aside0.mk (below_step (bW) hb); clear HO_1245001 HO1259 HO1262 BK1244 BK1263 HB; have HO_1245001 := n0_; have HO1259 := n1_; have HO1262 := n2_; have BK1244 := n3_; have BK1263 := n4_; have HB := n5_; clear n0_ n1_ n2_ n3_ n4_ n5_; (try clear hb); (try clear hb2); (try clear hk); (try clear hi); obtain ⟨hcz42_0, hcz42_1⟩ := cells2 BK1263.out; obtain ⟨hfz42_0, hfz42_1⟩ := frz2 BK1263.out) | (go_at_call 51; (with_reducible refine (impl_IsExpression.calls kj7 t1256 _ _ t1257 _ _ t1260 true _ ?side1 ?side2 ?side3 ?side4 A31.out (tabW HTab.out)).mono ?_); (case side1 => exact cP ((Kd.R_reads' HO1259.out).2.2)); (case side2 => exact (Kd.R_reads' HO1259.out).2.1); (case side3 => exact cP ((Kd.R_reads' HO1262.out).2.2)); (case side4 => exact (Kd.R_reads' HO1262.out).2.1); rintro e w43 ⟨rfl, hb⟩; have n0_ := Aside0.mk (Kd.R_below (rP HO_1245001.out) hb); have n1_ := Aside0.mk (Kd.R_below (rP HO1259.out) hb); have n2_ := Aside0.mk (Kd.R_below (rP HO1262.out) hb); have n3_ := Aside0.mk (blkB BK1244.out hb); have n4_ := Aside0.mk (blkB BK1263.out hb); have n5_ := Aside0.mk (below_step (bW) hb); clear HO_1245001 HO1259 HO1262 BK1244 BK1263 HB; have HO_1245001 := n0_; have HO1259 := n1_; have HO1262 := n2_; have BK1244 := n3_; have BK1263 := n4_; have HB := n5_; clear n0_ n1_ n2_ n3_ n4_ n5_; (try clear hb); (try clear hb2); (try clear hk); (try clear hi); obtain ⟨hcz44_0, hcz44_1⟩ := cells2 BK1263.out; obtain ⟨hfz44_0, hfz44_1⟩ := frz2 BK1263.out) | (go_at_call 43; (with_reducible refine (impl_ParseExpression.calls kj7 t1256 _ _ t1257 t1264 t1267 t1270 _ ?side1 ?side2 A33.out (tabW HTab.out)).mono ?_); (case side1 => exact cP ((Kd.R_reads' HO1259.out).2.2)); (case side2 => exact (Kd.R_reads' HO1259.out).2.1); rintro e w45 ⟨v1268, rfl, ho0, hb⟩; have n0_ := Aside0.mk (Kd.R_below (rP HO_1245001.out) hb); have n1_ := Aside0.mk (Kd.R_below (rP HO1259.out) hb); have n2_ := Aside0.mk (Kd.R_elder' (rP HO1262.out) (Kd.R_base ho0) hb); have n3_ := Aside0.mk (Kd.R_lower (Kd.R_new' ho0 (Kd.R_lt (rP HO1262.out))) (below_size (bW))); have n4_ := Aside0.mk (blkB BK1244.out hb); have n5_ := Aside0.mk (blkB BK1263.out hb); have n6_ := Aside0.mk (below_step (bW) hb); clear HO_1245001 HO1259 HO1262 BK1244 BK1263 HB; have HO_1245001 := n0_; have HO1259 := n1_; have HO1262 := n2_; have HO1269 := n3_; have BK1244 := n4_; have BK1263 := n5_; have HB := n6_; clear n0_ n1_ n2_ n3_ n4_ n5_ n6_; (try clear hb); (try clear hb2); (try clear hk); (try clear hi); (try clear ho0)))
      repeat (go_quiet (first | (go_at_call 52; (with_reducible refine (spec_DrawExpressionText.calls kj7 _ _ l0 t1256 t1257 t1260 _ ?side1 ?side2 A29.out).mono ?_); (case side1 => exact cP (Kd.C_below HR0.out HB.out)); (case side2 => exact HC0.out); rintro e w35 ⟨v1258, v1261, rfl, ho0, ho1, hb⟩; have n0_ := Aside0.mk (Kd.R_elder' (rP HO_1245001.out) (Kd.R_base ho0) hb); have n1_ := Aside0.mk (Kd.R_lower (Kd.R_new' ho0 (Kd.R_lt (rP HO_1245001.out))) (below_size (bW))); have n2_ := Aside0.mk (Kd.R_lower ho1 (below_size (bW))); have n3_ := Aside0.mk (blkB BK1244.out hb); have n4_ := Aside0.mk (below_step (bW) hb); clear HO_1245001 BK1244 HB; have HO_1245001 := n0_; have HO1259 := n1_; have HO1262 := n2_; have BK1244 := n3_; have HB := n4_; clear n0_ n1_ n2_ n3_ n4_; (try clear hb); (try clear hb2); (try clear hk); (try clear hi); (try clear ho0); (try clear ho1)) | ((with_reducible refine gate_dst (N := 11) rfl ?_); (try (refine gate_guard (by rfl) ?_; dsimp only)); refine boxS (N := 11) (cs := #[.int .i64 0, .slice none 0 0]) (t := 29) ?_; intro gb1263 hg w36 hbox hb; have n0_ := Aside0.mk (Kd.R_below (rP HO_1245001.out) hb); have n1_ := Aside0.mk (Kd.R_below (rP HO1259.out) hb); have n2_ := Aside0.mk (Kd.R_below (rP HO1262.out) hb); have n3_ := Aside0.mk (blkB BK1244.out hb); have n4_ := Aside0.mk (below_step (bW) hb); have n5_ := Aside0.mk (hbox); have n6_ := geW (w := w) hg; have n7_ := geW (w := w) hg; have n8_ := Aside0.mk ((by rw [hg]; exact Nat.ne_of_lt (blk_lt (g := gb1244) (o := .cells #[.int .i64 t1239, .slice Ao12 t1240.length co12] 29 (0, 0)) (bP BK1244.out)) : gb1244 ≠ gb1263)); have n9_ := Aside0.mk ((by rw [hg]; exact Nat.ne_of_gt (blk_lt (g := gb1244) (o := .cells #[.int .i64 t1239, .slice Ao12 t1240.length co12] 29 (0, 0)) (bP BK1244.out)) : gb1263 ≠ gb1244)); clear HO_1245001 HO1259 HO1262 BK1244 HB; have HO_1245001 := n0_; have HO1259 := n1_; have HO1262 := n2_; have BK1244 := n3_; have HB := n4_; have BK1263 := n5_; have GW1263 := n6_; have GE1263 := n7_; have NB1244_1263 := n8_; have NB1263_1244 := n9_; clear n0_ n1_ n2_ n3_ n4_ n5_ n6_ n7_ n8_ n9_ hb hbox hg; have hnb37 := NB1263_1244.out; have hnc37 := NB1244_1263.out; obtain ⟨hcz38_0, hcz38_1⟩ := cells2 BK1263.out; obtain ⟨hfz38_0, hfz38_1⟩ := frz2 BK1263.out; obtain ⟨Ao39, co39, eo39⟩ := Kd.R_slice HO1259.out; subst eo39; obtain ⟨Ao40, co40, eo40⟩ := Kd.R_slice HO1262.out; subst eo40) | (go_at_call 23; (with_reducible refine (impl_ExpressionText.calls kj7 t1256 _ _ t1257 _ _ t1260 t1264 t1265 _ ?side1 ?side2 ?side3 ?side4 A30.out (tabW HTab.out)).mono ?_); (case side1 => refine (Kd.R_reads' (e := 2) (base := w.heap.size) (ok := fun k_ => (True ∧ some k_ ≠ (.slice Ao12 t1240.length co12 : Value).ownBlock)) (n := t1257.length) (c := co39) ?_).2.2; exact (by (with_reducible repeat (first | apply Kd.R_alloc | apply Kd.R_drewN | apply Kd.R_drew)); exact (Kd.R_mono (Kd.R_far (p := ⟨gb1263, 1, none⟩) (Kd.R_far (p := ⟨gb1263, 0, none⟩) (Kd.R_types HO1259.out BK1263.out (by decide)) (fun _ hk => hk.2) (.int .i64 t1256)) (fun _ hk => hk.2) (.slice Ao39 t1257.length co39)) (fun _ h_ => h_.1)))); (case side2 => exact (Kd.R_reads' HO1259.out).2.1); (case side3 => refine (Kd.R_reads' (e := 84) (base := w.heap.size) (ok := fun k_ => True) (n := t1260.length) (c := co40) ?_).2.2; exact (by (with_reducible repeat (first | apply Kd.R_alloc | apply Kd.R_drewN | apply Kd.R_drew)); exact (Kd.R_mono (Kd.R_far (p := ⟨gb1263, 1, none⟩) (Kd.R_far (p := ⟨gb1263, 0, none⟩) (Kd.R_types HO1262.out BK1263.out (by decide)) (fun _ hk => hk.2) (.int .i64 t1256)) (fun _ hk => hk.2) (.slice Ao39 t1257.length co39)) (fun _ h_ => h_.1)))); (case side4 => exact (Kd.R_reads' HO1262.out).2.1); rintro e w41 ⟨rfl, hb⟩; have n0_ := Aside0.mk (Kd.R_below (by (with_reducible repeat (first | apply Kd.R_alloc | apply Kd.R_drewN | apply Kd.R_drew)); exact (Kd.R_mono (Kd.R_far (p := ⟨gb1263, 1, none⟩) (Kd.R_far (p := ⟨gb1263, 0, none⟩) (Kd.R_types HO_1245001.out BK1263.out (by decide)) (fun _ hk => hk.2) (.int .i64 t1256)) (fun _ hk => hk.2) (.slice Ao39 t1257.length co39)) (fun _ h_ => h_.1))) hb); have n1_ := Aside0.mk (Kd.R_below (by (with_reducible repeat (first | apply Kd.R_alloc | apply Kd.R_drewN | apply Kd.R_drew)); exact (Kd.R_mono (Kd.R_far (p := ⟨gb1263, 1, none⟩) (Kd.R_far (p := ⟨gb1263, 0, none⟩) (Kd.R_types HO1259.out BK1263.out (by decide)) (fun _ hk => hk.2) (.int .i64 t1256)) (fun _ hk => hk.2) (.slice Ao39 t1257.length co39)) (fun _ h_ => h_.1))) hb); have n2_ := Aside0.mk (Kd.R_below (by (with_reducible repeat (first | apply Kd.R_alloc | apply Kd.R_drewN | apply Kd.R_drew)); exact (Kd.R_mono (Kd.R_far (p := ⟨gb1263, 1, none⟩) (Kd.R_far (p := ⟨gb1263, 0, none⟩) (Kd.R_types HO1262.out BK1263.out (by decide)) (fun _ hk => hk.2) (.int .i64 t1256)) (fun _ hk => hk.2) (.slice Ao39 t1257.length co39)) (fun _ h_ => h_.1))) hb); have n3_ := Aside0.mk (blk_below (g := gb1244) (o := .cells #[.int .i64 t1239, .slice Ao12 t1240.length co12] 29 (0, 0)) (by (with_reducible repeat (first | refine blk_drewN ?_ _ | refine blk_drew ?_ | refine blk_alloc ?_ _)); refine blk_far ?_ NB1244_1263.out _; (with_reducible repeat (first | refine blk_drewN ?_ _ | refine blk_drew ?_ | refine blk_alloc ?_ _)); refine blk_far ?_ NB1244_1263.out _; exact bP BK1244.out) hb); have n4_ := Aside0.mk (blk_below (g := gb1263) (o := .cells #[.int .i64 t1256, .slice Ao39 t1257.length co39] 29 (0, 0)) (by (with_reducible repeat (first | refine blk_drewN ?_ _ | refine blk_drew ?_ | refine blk_alloc ?_ _)); refine blk_put (cs := #[.int .i64 t1256, .slice none 0 0]) ?_ 1 _ rfl; (with_reducible repeat (first | refine blk_drewN ?_ _ | refine blk_drew ?_ | refine blk_alloc ?_ _)); refine blk_put (cs := #[.int .i64 0, .slice none 0 0]) ?_ 0 _ rfl; exact bP BK1263.out) hb); have n5_ := Aside0.mk (below_step (bW) hb); clear HO_1245001 HO1259 HO1262 BK1244 BK1263 HB; have HO_1245001 := n0_; have HO1259 := n1_; have HO1262 := n2_; have BK1244 := n3_; have BK1263 := n4_; have HB := n5_; clear n0_ n1_ n2_ n3_ n4_ n5_; (try clear hb); (try clear hb2); (try clear hk); (try clear hi); obtain ⟨hcz42_0, hcz42_1⟩ := cells2 BK1263.out; obtain ⟨hfz42_0, hfz42_1⟩ := frz2 BK1263.out) | (go_at_call 51; (with_reducible refine (impl_IsExpression.calls kj7 t1256 _ _ t1257 _ _ t1260 true _ ?side1 ?side2 ?side3 ?side4 A31.out (tabW HTab.out)).mono ?_); (case side1 => exact cP ((Kd.R_reads' HO1259.out).2.2)); (case side2 => exact (Kd.R_reads' HO1259.out).2.1); (case side3 => exact cP ((Kd.R_reads' HO1262.out).2.2)); (case side4 => exact (Kd.R_reads' HO1262.out).2.1); rintro e w43 ⟨rfl, hb⟩; have n0_ := Aside0.mk (Kd.R_below (rP HO_1245001.out) hb); have n1_ := Aside0.mk (Kd.R_below (rP HO1259.out) hb); have n2_ := Aside0.mk (Kd.R_below (rP HO1262.out) hb); have n3_ := Aside0.mk (blkB BK1244.out hb); have n4_ := Aside0.mk (blkB BK1263.out hb); have n5_ := Aside0.mk (below_step (bW) hb); clear HO_1245001 HO1259 HO1262 BK1244 BK1263 HB; have HO_1245001 := n0_; have HO1259 := n1_; have HO1262 := n2_; have BK1244 := n3_; have BK1263 := n4_; have HB := n5_; clear n0_ n1_ n2_ n3_ n4_ n5_; (try clear hb); (try clear hb2); (try clear hk); (try clear hi); obtain ⟨hcz44_0, hcz44_1⟩ := cells2 BK1263.out; obtain ⟨hfz44_0, hfz44_1⟩ := frz2 BK1263.out) | (go_at_call 43; (with_reducible refine (impl_ParseExpression.calls kj7 t1256 _ _ t1257 t1264 t1267 t1270 _ ?side1 ?side2 A33.out (tabW HTab.out)).mono ?_); (case side1 => exact cP ((Kd.R_reads' HO1259.out).2.2)); (case side2 => exact (Kd.R_reads' HO1259.out).2.1); rintro e w45 ⟨v1268, rfl, ho0, hb⟩; have n0_ := Aside0.mk (Kd.R_below (rP HO_1245001.out) hb); have n1_ := Aside0.mk (Kd.R_below (rP HO1259.out) hb); have n2_ := Aside0.mk (Kd.R_elder' (rP HO1262.out) (Kd.R_base ho0) hb); have n3_ := Aside0.mk (Kd.R_lower (Kd.R_new' ho0 (Kd.R_lt (rP HO1262.out))) (below_size (bW))); have n4_ := Aside0.mk (blkB BK1244.out hb); have n5_ := Aside0.mk (blkB BK1263.out hb); have n6_ := Aside0.mk (below_step (bW) hb); clear HO_1245001 HO1259 HO1262 BK1244 BK1263 HB; have HO_1245001 := n0_; have HO1259 := n1_; have HO1262 := n2_; have HO1269 := n3_; have BK1244 := n4_; have BK1263 := n5_; have HB := n6_; clear n0_ n1_ n2_ n3_ n4_ n5_ n6_; (try clear hb); (try clear hb2); (try clear hk); (try clear hi); (try clear ho0))); go_upto_region 19 with (first | (go_at_call 52; (with_reducible refine (spec_DrawExpressionText.calls kj7 _ _ l0 t1256 t1257 t1260 _ ?side1 ?side2 A29.out).mono ?_); (case side1 => exact cP (Kd.C_below HR0.out HB.out)); (case side2 => exact HC0.out); rintro e w35 ⟨v1258, v1261, rfl, ho0, ho1, hb⟩; have n0_ := Aside0.mk (Kd.R_elder' (rP HO_1245001.out) (Kd.R_base ho0) hb); have n1_ := Aside0.mk (Kd.R_lower (Kd.R_new' ho0 (Kd.R_lt (rP HO_1245001.out))) (below_size (bW))); have n2_ := Aside0.mk (Kd.R_lower ho1 (below_size (bW))); have n3_ := Aside0.mk (blkB BK1244.out hb); have n4_ := Aside0.mk (below_step (bW) hb); clear HO_1245001 BK1244 HB; have HO_1245001 := n0_; have HO1259 := n1_; have HO1262 := n2_; have BK1244 := n3_; have HB := n4_; clear n0_ n1_ n2_ n3_ n4_; (try clear hb); (try clear hb2); (try clear hk); (try clear hi); (try clear ho0); (try clear ho1)) | ((with_reducible refine gate_dst (N := 11) rfl ?_); (try (refine gate_guard (by rfl) ?_; dsimp only)); refine boxS (N := 11) (cs := #[.int .i64 0, .slice none 0 0]) (t := 29) ?_; intro gb1263 hg w36 hbox hb; have n0_ := Aside0.mk (Kd.R_below (rP HO_1245001.out) hb); have n1_ := Aside0.mk (Kd.R_below (rP HO1259.out) hb); have n2_ := Aside0.mk (Kd.R_below (rP HO1262.out) hb); have n3_ := Aside0.mk (blkB BK1244.out hb); have n4_ := Aside0.mk (below_step (bW) hb); have n5_ := Aside0.mk (hbox); have n6_ := geW (w := w) hg; have n7_ := geW (w := w) hg; have n8_ := Aside0.mk ((by rw [hg]; exact Nat.ne_of_lt (blk_lt (g := gb1244) (o := .cells #[.int .i64 t1239, .slice Ao12 t1240.length co12] 29 (0, 0)) (bP BK1244.out)) : gb1244 ≠ gb1263)); have n9_ := Aside0.mk ((by rw [hg]; exact Nat.ne_of_gt (blk_lt (g := gb1244) (o := .cells #[.int .i64 t1239, .slice Ao12 t1240.length co12] 29 (0, 0)) (bP BK1244.out)) : gb1263 ≠ gb1244)); clear HO_1245001 HO1259 HO1262 BK1244 HB; have HO_1245001 := n0_; have HO1259 := n1_; have HO1262 := n2_; have BK1244 := n3_; have HB := n4_; have BK1263 := n5_; have GW1263 := n6_; have GE1263 := n7_; have NB1244_1263 := n8_; have NB1263_1244 := n9_; clear n0_ n1_ n2_ n3_ n4_ n5_ n6_ n7_ n8_ n9_ hb hbox hg; have hnb37 := NB1263_1244.out; have hnc37 := NB1244_1263.out; obtain ⟨hcz38_0, hcz38_1⟩ := cells2 BK1263.out; obtain ⟨hfz38_0, hfz38_1⟩ := frz2 BK1263.out; obtain ⟨Ao39, co39, eo39⟩ := Kd.R_slice HO1259.out; subst eo39; obtain ⟨Ao40, co40, eo40⟩ := Kd.R_slice HO1262.out; subst eo40) | (go_at_call 23; (with_reducible refine (impl_ExpressionText.calls kj7 t1256 _ _ t1257 _ _ t1260 t1264 t1265 _ ?side1 ?side2 ?side3 ?side4 A30.out (tabW HTab.out)).mono ?_); (case side1 => refine (Kd.R_reads' (e := 2) (base := w.heap.size) (ok := fun k_ => (True ∧ some k_ ≠ (.slice Ao12 t1240.length co12 : Value).ownBlock)) (n := t1257.length) (c := co39) ?_).2.2; exact (by (with_reducible repeat (first | apply Kd.R_alloc | apply Kd.R_drewN | apply Kd.R_drew)); exact (Kd.R_mono (Kd.R_far (p := ⟨gb1263, 1, none⟩) (Kd.R_far (p := ⟨gb1263, 0, none⟩) (Kd.R_types HO1259.out BK1263.out (by decide)) (fun _ hk => hk.2) (.int .i64 t1256)) (fun _ hk => hk.2) (.slice Ao39 t1257.length co39)) (fun _ h_ => h_.1)))); (case side2 => exact (Kd.R_reads' HO1259.out).2.1); (case side3 => refine (Kd.R_reads' (e := 84) (base := w.heap.size) (ok := fun k_ => True) (n := t1260.length) (c := co40) ?_).2.2; exact (by (with_reducible repeat (first | apply Kd.R_alloc | apply Kd.R_drewN | apply Kd.R_drew)); exact (Kd.R_mono (Kd.R_far (p := ⟨gb1263, 1, none⟩) (Kd.R_far (p := ⟨gb1263, 0, none⟩) (Kd.R_types HO1262.out BK1263.out (by decide)) (fun _ hk => hk.2) (.int .i64 t1256)) (fun _ hk => hk.2) (.slice Ao39 t1257.length co39)) (fun _ h_ => h_.1)))); (case side4 => exact (Kd.R_reads' HO1262.out).2.1); rintro e w41 ⟨rfl, hb⟩; have n0_ := Aside0.mk (Kd.R_below (by (with_reducible repeat (first | apply Kd.R_alloc | apply Kd.R_drewN | apply Kd.R_drew)); exact (Kd.R_mono (Kd.R_far (p := ⟨gb1263, 1, none⟩) (Kd.R_far (p := ⟨gb1263, 0, none⟩) (Kd.R_types HO_1245001.out BK1263.out (by decide)) (fun _ hk => hk.2) (.int .i64 t1256)) (fun _ hk => hk.2) (.slice Ao39 t1257.length co39)) (fun _ h_ => h_.1))) hb); have n1_ := Aside0.mk (Kd.R_below (by (with_reducible repeat (first | apply Kd.R_alloc | apply Kd.R_drewN | apply Kd.R_drew)); exact (Kd.R_mono (Kd.R_far (p := ⟨gb1263, 1, none⟩) (Kd.R_far (p := ⟨gb1263, 0, none⟩) (Kd.R_types HO1259.out BK1263.out (by decide)) (fun _ hk => hk.2) (.int .i64 t1256)) (fun _ hk => hk.2) (.slice Ao39 t1257.length co39)) (fun _ h_ => h_.1))) hb); have n2_ := Aside0.mk (Kd.R_below (by (with_reducible repeat (first | apply Kd.R_alloc | apply Kd.R_drewN | apply Kd.R_drew)); exact (Kd.R_mono (Kd.R_far (p := ⟨gb1263, 1, none⟩) (Kd.R_far (p := ⟨gb1263, 0, none⟩) (Kd.R_types HO1262.out BK1263.out (by decide)) (fun _ hk => hk.2) (.int .i64 t1256)) (fun _ hk => hk.2) (.slice Ao39 t1257.length co39)) (fun _ h_ => h_.1))) hb); have n3_ := Aside0.mk (blk_below (g := gb1244) (o := .cells #[.int .i64 t1239, .slice Ao12 t1240.length co12] 29 (0, 0)) (by (with_reducible repeat (first | refine blk_drewN ?_ _ | refine blk_drew ?_ | refine blk_alloc ?_ _)); refine blk_far ?_ NB1244_1263.out _; (with_reducible repeat (first | refine blk_drewN ?_ _ | refine blk_drew ?_ | refine blk_alloc ?_ _)); refine blk_far ?_ NB1244_1263.out _; exact bP BK1244.out) hb); have n4_ := Aside0.mk (blk_below (g := gb1263) (o := .cells #[.int .i64 t1256, .slice Ao39 t1257.length co39] 29 (0, 0)) (by (with_reducible repeat (first | refine blk_drewN ?_ _ | refine blk_drew ?_ | refine blk_alloc ?_ _)); refine blk_put (cs := #[.int .i64 t1256, .slice none 0 0]) ?_ 1 _ rfl; (with_reducible repeat (first | refine blk_drewN ?_ _ | refine blk_drew ?_ | refine blk_alloc ?_ _)); refine blk_put (cs := #[.int .i64 0, .slice none 0 0]) ?_ 0 _ rfl; exact bP BK1263.out) hb); have n5_ := Aside0.mk (below_step (bW) hb); clear HO_1245001 HO1259 HO1262 BK1244 BK1263 HB; have HO_1245001 := n0_; have HO1259 := n1_; have HO1262 := n2_; have BK1244 := n3_; have BK1263 := n4_; have HB := n5_; clear n0_ n1_ n2_ n3_ n4_ n5_; (try clear hb); (try clear hb2); (try clear hk); (try clear hi); obtain ⟨hcz42_0, hcz42_1⟩ := cells2 BK1263.out; obtain ⟨hfz42_0, hfz42_1⟩ := frz2 BK1263.out) | (go_at_call 51; (with_reducible refine (impl_IsExpression.calls kj7 t1256 _ _ t1257 _ _ t1260 true _ ?side1 ?side2 ?side3 ?side4 A31.out (tabW HTab.out)).mono ?_); (case side1 => exact cP ((Kd.R_reads' HO1259.out).2.2)); (case side2 => exact (Kd.R_reads' HO1259.out).2.1); (case side3 => exact cP ((Kd.R_reads' HO1262.out).2.2)); (case side4 => exact (Kd.R_reads' HO1262.out).2.1); rintro e w43 ⟨rfl, hb⟩; have n0_ := Aside0.mk (Kd.R_below (rP HO_1245001.out) hb); have n1_ := Aside0.mk (Kd.R_below (rP HO1259.out) hb); have n2_ := Aside0.mk (Kd.R_below (rP HO1262.out) hb); have n3_ := Aside0.mk (blkB BK1244.out hb); have n4_ := Aside0.mk (blkB BK1263.out hb); have n5_ := Aside0.mk (below_step (bW) hb); clear HO_1245001 HO1259 HO1262 BK1244 BK1263 HB; have HO_1245001 := n0_; have HO1259 := n1_; have HO1262 := n2_; have BK1244 := n3_; have BK1263 := n4_; have HB := n5_; clear n0_ n1_ n2_ n3_ n4_ n5_; (try clear hb); (try clear hb2); (try clear hk); (try clear hi); obtain ⟨hcz44_0, hcz44_1⟩ := cells2 BK1263.out; obtain ⟨hfz44_0, hfz44_1⟩ := frz2 BK1263.out) | (go_at_call 43; (with_reducible refine (impl_ParseExpression.calls kj7 t1256 _ _ t1257 t1264 t1267 t1270 _ ?side1 ?side2 A33.out (tabW HTab.out)).mono ?_); (case side1 => exact cP ((Kd.R_reads' HO1259.out).2.2)); (case side2 => exact (Kd.R_reads' HO1259.out).2.1); rintro e w45 ⟨v1268, rfl, ho0, hb⟩; have n0_ := Aside0.mk (Kd.R_below (rP HO_1245001.out) hb); have n1_ := Aside0.mk (Kd.R_below (rP HO1259.out) hb); have n2_ := Aside0.mk (Kd.R_elder' (rP HO1262.out) (Kd.R_base ho0) hb); have n3_ := Aside0.mk (Kd.R_lower (Kd.R_new' ho0 (Kd.R_lt (rP HO1262.out))) (below_size (bW))); have n4_ := Aside0.mk (blkB BK1244.out hb); have n5_ := Aside0.mk (blkB BK1263.out hb); have n6_ := Aside0.mk (below_step (bW) hb); clear HO_1245001 HO1259 HO1262 BK1244 BK1263 HB; have HO_1245001 := n0_; have HO1259 := n1_; have HO1262 := n2_; have HO1269 := n3_; have BK1244 := n4_; have BK1263 := n5_; have HB := n6_; clear n0_ n1_ n2_ n3_ n4_ n5_ n6_; (try clear hb); (try clear hb2); (try clear hk); (try clear hi); (try clear ho0))))
      (try simp only [Act.put, List.setIfInBounds_toArray, List.set_cons_zero, List.set_cons_succ])
      go_cut [103] (fun v103 wc => ∃ (kq : Nat) (x103_33 : Bool), v103 = .bool x103_33 ∧ Aside0 (laws_FnExpressionTexts.j1 kq t1260 t1267 x103_33 = some r) ∧ Aside0 (kq ≤ kj7) ∧ Aside0 (Kd.R k84 84 wc w.heap.size (fun k_ => some k_ ≠ (v1268 : Value).ownBlock) (.slice Ao40 t1260.length co40) t1260) ∧ Aside0 (Kd.R k84 84 wc w.heap.size (fun k_ => some k_ ≠ ((.slice Ao40 t1260.length co40) : Value).ownBlock) v1268 t1267) ∧ Aside0 (Kd.R (Kd.int .i64) 2 wc w.heap.size (fun k_ => some k_ ≠ ((.slice Ao39 t1257.length co39) : Value).ownBlock) (.slice Ao12 t1240.length co12) t1240) ∧ Aside0 (Kd.R (Kd.int .i64) 2 wc w.heap.size (fun k_ => some k_ ≠ ((.slice Ao12 t1240.length co12) : Value).ownBlock) (.slice Ao39 t1257.length co39) t1257) ∧ Aside0 (wc.heap[gb1244]? = some (.cells #[.int .i64 t1239, (.slice Ao12 t1240.length co12)] 29 (0, 0))) ∧ Aside0 (wc.heap[gb1263]? = some (.cells #[.int .i64 t1256, (.slice Ao39 t1257.length co39)] 29 (0, 0))) ∧ Aside0 (Below w.heap.size w wc))
      case first =>
       have H := HC34.out
       clear HC34
       by_cases c46 : t1265 = 0
       ·rw [if_pos c46] at H
        have c46b0 : (t1265 == 0) = true := beq_iff_eq.mpr c46
        have c46b1 : (t1265 != 0) = false := bne_eq_false_iff_eq.mpr c46
        clear c46
        (first | rw [c46b0] | (simp only [i64_w, i32_w]; rw [c46b0]) | skip)
        by_cases c47 : t1270 = 0
        ·rw [if_pos c47] at H
         have c47b0 : (t1270 == 0) = true := beq_iff_eq.mpr c47
         have c47b1 : (t1270 != 0) = false := bne_eq_false_iff_eq.mpr c47
         clear c47
         have H' := Aside0.mk H
         clear H
         obtain ⟨Ao48, co48, eo48⟩ := Kd.R_slice HO1269.out
         subst eo48
         go_wp2
         repeat (go_quiet (fail); try go_wp2)
         go_meet
         case rel => exact ⟨_, (((t1267.length : Int) != (t1260.length : Int))), (eW), H', ⟨by have := HJ7.out; first | omega | exact Nat.le_refl _⟩, ⟨by (with_reducible repeat (first | apply Kd.R_alloc | apply Kd.R_drewN | apply Kd.R_drew)); exact Kd.R_mono HO1262.out (fun _ hk => hk.2)⟩, ⟨by (with_reducible repeat (first | apply Kd.R_alloc | apply Kd.R_drewN | apply Kd.R_drew)); exact Kd.R_mono HO1269.out (fun _ hk => hk.2)⟩, ⟨by (with_reducible repeat (first | apply Kd.R_alloc | apply Kd.R_drewN | apply Kd.R_drew)); exact Kd.R_mono HO_1245001.out (fun _ hk => hk.2)⟩, ⟨by (with_reducible repeat (first | apply Kd.R_alloc | apply Kd.R_drewN | apply Kd.R_drew)); exact Kd.R_mono HO1259.out (fun _ hk => hk.2)⟩, ⟨(bP BK1244.out)⟩, ⟨(bP BK1263.out)⟩, ⟨bW⟩⟩
        ·rw [if_neg c47] at H
         have c47b0 : (t1270 == 0) = false := beq_eq_false_iff_ne.mpr c47
         have c47b1 : (t1270 != 0) = true := bne_iff_ne.mpr c47
         have H' := Aside0.mk H
         clear H
         go_wp2
         repeat (go_quiet (fail); try go_wp2)
         go_meet
         case rel => exact ⟨_, (true), (eW), H', ⟨by have := HJ7.out; first | omega | exact Nat.le_refl _⟩, ⟨by (with_reducible repeat (first | apply Kd.R_alloc | apply Kd.R_drewN | apply Kd.R_drew)); exact Kd.R_mono HO1262.out (fun _ hk => hk.2)⟩, ⟨by (with_reducible repeat (first | apply Kd.R_alloc | apply Kd.R_drewN | apply Kd.R_drew)); exact Kd.R_mono HO1269.out (fun _ hk => hk.2)⟩, ⟨by (with_reducible repeat (first | apply Kd.R_alloc | apply Kd.R_drewN | apply Kd.R_drew)); exact Kd.R_mono HO_1245001.out (fun _ hk => hk.2)⟩, ⟨by (with_reducible repeat (first | apply Kd.R_alloc | apply Kd.R_drewN | apply Kd.R_drew)); exact Kd.R_mono HO1259.out (fun _ hk => hk.2)⟩, ⟨(bP BK1244.out)⟩, ⟨(bP BK1263.out)⟩, ⟨bW⟩⟩
       ·rw [if_neg c46] at H
        have c46b0 : (t1265 == 0) = false := beq_eq_false_iff_ne.mpr c46
        have c46b1 : (t1265 != 0) = true := bne_iff_ne.mpr c46
        (first | rw [c46b0] | (simp only [i64_w, i32_w]; rw [c46b0]) | skip)
        have H' := Aside0.mk H
        clear H
        go_wp2
        repeat (go_quiet (fail); try go_wp2)
        go_meet
        case rel => exact ⟨_, (true), (eW), H', ⟨by have := HJ7.out; first | omega | exact Nat.le_refl _⟩, ⟨by (with_reducible repeat (first | apply Kd.R_alloc | apply Kd.R_drewN | apply Kd.R_drew)); exact Kd.R_mono HO1262.out (fun _ hk => hk.2)⟩, ⟨by (with_reducible repeat (first | apply Kd.R_alloc | apply Kd.R_drewN | apply Kd.R_drew)); exact Kd.R_mono HO1269.out (fun _ hk => hk.2)⟩, ⟨by (with_reducible repeat (first | apply Kd.R_alloc | apply Kd.R_drewN | apply Kd.R_drew)); exact Kd.R_mono HO_1245001.out (fun _ hk => hk.2)⟩, ⟨by (with_reducible repeat (first | apply Kd.R_alloc | apply Kd.R_drewN | apply Kd.R_drew)); exact Kd.R_mono HO1259.out (fun _ hk => hk.2)⟩, ⟨(bP BK1244.out)⟩, ⟨(bP BK1263.out)⟩, ⟨bW⟩⟩
      case rest =>
       clear HC34
       try clear c1
       try clear c2
       try clear p2
       try clear c3
       try clear c4
       try clear c7
       try clear c7b0
       try clear c7b1
       try clear c10
       try clear c16
       try clear c16b0
       try clear c16b1
       try clear c18
       try clear c18b0
       try clear c18b1
       try clear c19
       try clear c19b0
       try clear c19b1
       try clear c21
       try clear c27
       try clear c27b0
       try clear c27b1
       try clear c32
       try clear c37
       try clear c46
       try clear c46b0
       try clear c46b1
       try clear c47
       try clear c47b0
       try clear c47b1
       try clear hcz11_0
       try clear hcz11_1
       try clear hcz14_0
       try clear hcz14_1
       try clear hcz22_0
       try clear hcz22_1
       try clear hcz25_0
       try clear hcz25_1
       try clear hcz38_0
       try clear hcz38_1
       try clear hcz42_0
       try clear hcz42_1
       try clear hcz44_0
       try clear hcz44_1
       try clear hfz11_0
       try clear hfz11_1
       try clear hfz14_0
       try clear hfz14_1
       try clear hfz22_0
       try clear hfz22_1
       try clear hfz25_0
       try clear hfz25_1
       try clear hfz38_0
       try clear hfz38_1
       try clear hfz42_0
       try clear hfz42_1
       try clear hfz44_0
       try clear hfz44_1
       try clear p2
       obtain ⟨kq, x103_33, rfl, HA, HJ33, HO_12, HO_15, HO_1245001, HO_1264001, BK1244, BK1263, HB⟩ := hcut
       cases kq with
       | zero => exact absurd HA.out (by simp [laws_FnExpressionTexts.j1])
       | succ kj33 =>
        have H := HA.out
        clear HA
        simp only [laws_FnExpressionTexts.j1] at H
        by_cases c49 : x103_33 = true
        ·subst c49
         have H1 : (some false) = some r := by rw [if_pos rfl] at H; exact H
         clear H
         have H := H1
         clear H1
         exact absurd (Option.some.inj H) (by rw [HTr_.out]; decide)
        ·replace c49 := Bool.eq_false_iff.mpr c49
         subst c49
         have H1 : (laws_FnExpressionTexts.l0 kj33 t1260 t1267 0) = some r := by rw [if_neg (show ¬ (false = true) by decide)] at H; exact H
         clear H
         have H := H1
         clear H1
         have H' := Aside0.mk H
         clear H
         go_wp2
         repeat (go_quiet (fail); try go_wp2)
         go_loopg [17] kj33 (fun kq v17 w' => ∃ (x17_3 : Int), v17 = .int .i64 x17_3 ∧ Aside0 (laws_FnExpressionTexts.l0 kq t1260 t1267 x17_3 = some r) ∧ Aside0 (kq ≤ kj33) ∧ Aside0 (Kd.R k84 84 w' w.heap.size (fun k_ => some k_ ≠ (v1268 : Value).ownBlock) (.slice Ao40 t1260.length co40) t1260) ∧ Aside0 (Kd.R k84 84 w' w.heap.size (fun k_ => some k_ ≠ ((.slice Ao40 t1260.length co40) : Value).ownBlock) v1268 t1267) ∧ Aside0 (Kd.R (Kd.int .i64) 2 w' w.heap.size (fun k_ => some k_ ≠ ((.slice Ao39 t1257.length co39) : Value).ownBlock) (.slice Ao12 t1240.length co12) t1240) ∧ Aside0 (Kd.R (Kd.int .i64) 2 w' w.heap.size (fun k_ => some k_ ≠ ((.slice Ao12 t1240.length co12) : Value).ownBlock) (.slice Ao39 t1257.length co39) t1257) ∧ Aside0 (w'.heap[gb1244]? = some (.cells #[.int .i64 t1239, (.slice Ao12 t1240.length co12)] 29 (0, 0))) ∧ Aside0 (w'.heap[gb1263]? = some (.cells #[.int .i64 t1256, (.slice Ao39 t1257.length co39)] 29 (0, 0))) ∧ Aside0 (Below w.heap.size w w'))
         case atStart => exact ⟨(0), (eW), H', ⟨Nat.le_refl _⟩, ⟨(rP HO_12.out)⟩, ⟨(rP HO_15.out)⟩, ⟨(rP HO_1245001.out)⟩, ⟨(rP HO_1264001.out)⟩, ⟨(bP BK1244.out)⟩, ⟨(bP BK1263.out)⟩, ⟨bW⟩⟩
         case round =>
          clear H'
          try clear c1
          try clear c2
          try clear p2
          try clear c3
          try clear c4
          try clear c7
          try clear c7b0
          try clear c7b1
          try clear c10
          try clear c16
          try clear c16b0
          try clear c16b1
          try clear c18
          try clear c18b0
          try clear c18b1
          try clear c19
          try clear c19b0
          try clear c19b1
          try clear c21
          try clear c27
          try clear c27b0
          try clear c27b1
          try clear c32
          try clear c37
          try clear c46
          try clear c46b0
          try clear c46b1
          try clear c47
          try clear c47b0
          try clear c47b1
          try clear c49
          try clear hcz11_0
          try clear hcz11_1
          try clear hcz14_0
          try clear hcz14_1
          try clear hcz22_0
          try clear hcz22_1
          try clear hcz25_0
          try clear hcz25_1
          try clear hcz38_0
          try clear hcz38_1
          try clear hcz42_0
          try clear hcz42_1
          try clear hcz44_0
          try clear hcz44_1
          try clear hfz11_0
          try clear hfz11_1
          try clear hfz14_0
          try clear hfz14_1
          try clear hfz22_0
          try clear hfz22_1
          try clear hfz25_0
          try clear hfz25_1
          try clear hfz38_0
          try clear hfz38_1
          try clear hfz42_0
          try clear hfz42_1
          try clear hfz44_0
          try clear hfz44_1
          try clear p2
          obtain ⟨x17_3, rfl, HA, HK3, HO_12, HO_15, HO_1245001, HO_1264001, BK1244, BK1263, HB⟩ := hrel
          cases gk with
          | zero => exact absurd HA.out (by simp [laws_FnExpressionTexts.l0])
          | succ k3 =>
           have H := HA.out
           clear HA
           simp only [laws_FnExpressionTexts.l0] at H
           by_cases c50 : x17_3 < (t1260.length : Int)
           ·rw [if_pos c50] at H
            have c50b0 : decide (x17_3 < (t1260.length : Int)) = true := decide_eq_true c50
            clear c50
            by_cases c51 : 0 ≤ x17_3
            ·rw [if_pos c51] at H
             have c51b0 : decide (0 ≤ x17_3) = true := decide_eq_true c51
             clear c51
             by_cases c52 : x17_3 < (t1267.length : Int)
             ·rw [if_pos c52] at H
              have c52b0 : decide (x17_3 < (t1267.length : Int)) = true := decide_eq_true c52
              clear c52
              by_cases c53 : (!(((rd_T84 t1260 x17_3).f0) == ((rd_T84 t1267 x17_3).f0)) || (!(((rd_T84 t1260 x17_3).f1) == ((rd_T84 t1267 x17_3).f1)))) = true
              ·rw [if_pos c53] at H
               have c53b0 : (!(((rd_T84 t1260 x17_3).f0) == ((rd_T84 t1267 x17_3).f0)) || (!(((rd_T84 t1260 x17_3).f1) == ((rd_T84 t1267 x17_3).f1)))) = true := c53
               clear c53
               exact absurd (Option.some.inj H) (by rw [HTr_.out]; decide)
              ·rw [if_neg c53] at H
               have c53b0 : (!(((rd_T84 t1260 x17_3).f0) == ((rd_T84 t1267 x17_3).f0)) || (!(((rd_T84 t1260 x17_3).f1) == ((rd_T84 t1267 x17_3).f1)))) = false := by simpa using c53
               clear c53
               have H' := Aside0.mk H
               clear H
               have p1271 : 0 ≤ (x17_3 : Int) := ofD
               have q1271 : x17_3 < (t1260.length : Int) := ofD
               obtain ⟨ad1271, e1271, hx1271_0, hx1271_1⟩ := at_T84 (Kd.R_reads' HO_12.out).2.2 x17_3 p1271 q1271
               cases e1271
               replace p1271 := eq_true p1271
               replace q1271 := eq_true q1271
               obtain ⟨Ao54, co54, eo54⟩ := Kd.R_slice HO_15.out
               subst eo54
               have p1272 : 0 ≤ (x17_3 : Int) := ofD
               have q1272 : x17_3 < (t1267.length : Int) := ofD
               obtain ⟨ad1272, e1272, hx1272_0, hx1272_1⟩ := at_T84 (Kd.R_reads' HO_15.out).2.2 x17_3 p1272 q1272
               cases e1272
               replace p1272 := eq_true p1272
               replace q1272 := eq_true q1272
               go_wp2
               repeat (go_quiet (fail); try go_wp2)
               go_roundg k3
               case measure => have := HJ7.out; have := HJ33.out; have := HK3.out; omega
               case rel => exact ⟨(wrap64 (x17_3 + 1)), (eW), H', ⟨by have := HJ7.out; have := HJ33.out; have := HK3.out; omega⟩, ⟨(rP HO_12.out)⟩, ⟨(rP HO_15.out)⟩, ⟨(rP HO_1245001.out)⟩, ⟨(rP HO_1264001.out)⟩, ⟨(bP BK1244.out)⟩, ⟨(bP BK1263.out)⟩, ⟨bW⟩⟩
             ·rw [if_neg c52] at H
              exact absurd H (by simp)
            ·rw [if_neg c51] at H
             exact absurd H (by simp)
           ·rw [if_neg c50] at H
            have c50b0 : decide (x17_3 < (t1260.length : Int)) = false := decide_eq_false c50
            clear c50
            obtain rfl := Option.some.inj H
            go_wp2
            repeat (go_quiet (fail); try go_wp2)
            go_ret
            exact ⟨eW, bW⟩
     ·replace c32 := Bool.eq_false_iff.mpr c32
      subst c32
      have H1 : (if t1265 = 1 then (some (t1264.toList == ([] : List UInt8))) else (some false)) = some r := by rw [if_neg (show ¬ (false = true) by decide)] at H; exact H
      clear H
      have H := H1
      clear H1
      by_cases c55 : t1265 = 1
      ·rw [if_pos c55] at H
       have c55b0 : (t1265 == 1) = true := beq_iff_eq.mpr c55
       have c55b1 : (t1265 != 1) = false := bne_eq_false_iff_eq.mpr c55
       clear c55
       obtain rfl := Option.some.inj H
       go_wp2_with (first | (go_at_call 52; (with_reducible refine (spec_DrawExpressionText.calls kj7 _ _ l0 t1256 t1257 t1260 _ ?side1 ?side2 A29.out).mono ?_); (case side1 => exact cP (Kd.C_below HR0.out HB.out)); (case side2 => exact HC0.out); rintro e w56 ⟨v1258, v1261, rfl, ho0, ho1, hb⟩; have n0_ := Aside0.mk (Kd.R_elder' (rP HO_1245001.out) (Kd.R_base ho0) hb); have n1_ := Aside0.mk (Kd.R_lower (Kd.R_new' ho0 (Kd.R_lt (rP HO_1245001.out))) (below_size (bW))); have n2_ := Aside0.mk (Kd.R_lower ho1 (below_size (bW))); have n3_ := Aside0.mk (blkB BK1244.out hb); have n4_ := Aside0.mk (below_step (bW) hb); clear HO_1245001 BK1244 HB; have HO_1245001 := n0_; have HO1259 := n1_; have HO1262 := n2_; have BK1244 := n3_; have HB := n4_; clear n0_ n1_ n2_ n3_ n4_; (try clear hb); (try clear hb2); (try clear hk); (try clear hi); (try clear ho0); (try clear ho1)) | ((with_reducible refine gate_dst (N := 11) rfl ?_); (try (refine gate_guard (by rfl) ?_; dsimp only)); refine boxS (N := 11) (cs := #[.int .i64 0, .slice none 0 0]) (t := 29) ?_; intro gb1263 hg w57 hbox hb; have n0_ := Aside0.mk (Kd.R_below (rP HO_1245001.out) hb); have n1_ := Aside0.mk (Kd.R_below (rP HO1259.out) hb); have n2_ := Aside0.mk (Kd.R_below (rP HO1262.out) hb); have n3_ := Aside0.mk (blkB BK1244.out hb); have n4_ := Aside0.mk (below_step (bW) hb); have n5_ := Aside0.mk (hbox); have n6_ := geW (w := w) hg; have n7_ := geW (w := w) hg; have n8_ := Aside0.mk ((by rw [hg]; exact Nat.ne_of_lt (blk_lt (g := gb1244) (o := .cells #[.int .i64 t1239, .slice Ao12 t1240.length co12] 29 (0, 0)) (bP BK1244.out)) : gb1244 ≠ gb1263)); have n9_ := Aside0.mk ((by rw [hg]; exact Nat.ne_of_gt (blk_lt (g := gb1244) (o := .cells #[.int .i64 t1239, .slice Ao12 t1240.length co12] 29 (0, 0)) (bP BK1244.out)) : gb1263 ≠ gb1244)); clear HO_1245001 HO1259 HO1262 BK1244 HB; have HO_1245001 := n0_; have HO1259 := n1_; have HO1262 := n2_; have BK1244 := n3_; have HB := n4_; have BK1263 := n5_; have GW1263 := n6_; have GE1263 := n7_; have NB1244_1263 := n8_; have NB1263_1244 := n9_; clear n0_ n1_ n2_ n3_ n4_ n5_ n6_ n7_ n8_ n9_ hb hbox hg; have hnb58 := NB1263_1244.out; have hnc58 := NB1244_1263.out; obtain ⟨hcz59_0, hcz59_1⟩ := cells2 BK1263.out; obtain ⟨hfz59_0, hfz59_1⟩ := frz2 BK1263.out; obtain ⟨Ao60, co60, eo60⟩ := Kd.R_slice HO1259.out; subst eo60; obtain ⟨Ao61, co61, eo61⟩ := Kd.R_slice HO1262.out; subst eo61) | (go_at_call 23; (with_reducible refine (impl_ExpressionText.calls kj7 t1256 _ _ t1257 _ _ t1260 t1264 t1265 _ ?side1 ?side2 ?side3 ?side4 A30.out (tabW HTab.out)).mono ?_); (case side1 => refine (Kd.R_reads' (e := 2) (base := w.heap.size) (ok := fun k_ => (True ∧ some k_ ≠ (.slice Ao12 t1240.length co12 : Value).ownBlock)) (n := t1257.length) (c := co60) ?_).2.2; exact (by (with_reducible repeat (first | apply Kd.R_alloc | apply Kd.R_drewN | apply Kd.R_drew)); exact (Kd.R_mono (Kd.R_far (p := ⟨gb1263, 1, none⟩) (Kd.R_far (p := ⟨gb1263, 0, none⟩) (Kd.R_types HO1259.out BK1263.out (by decide)) (fun _ hk => hk.2) (.int .i64 t1256)) (fun _ hk => hk.2) (.slice Ao60 t1257.length co60)) (fun _ h_ => h_.1)))); (case side2 => exact (Kd.R_reads' HO1259.out).2.1); (case side3 => refine (Kd.R_reads' (e := 84) (base := w.heap.size) (ok := fun k_ => True) (n := t1260.length) (c := co61) ?_).2.2; exact (by (with_reducible repeat (first | apply Kd.R_alloc | apply Kd.R_drewN | apply Kd.R_drew)); exact (Kd.R_mono (Kd.R_far (p := ⟨gb1263, 1, none⟩) (Kd.R_far (p := ⟨gb1263, 0, none⟩) (Kd.R_types HO1262.out BK1263.out (by decide)) (fun _ hk => hk.2) (.int .i64 t1256)) (fun _ hk => hk.2) (.slice Ao60 t1257.length co60)) (fun _ h_ => h_.1)))); (case side4 => exact (Kd.R_reads' HO1262.out).2.1); rintro e w62 ⟨rfl, hb⟩; have n0_ := Aside0.mk (Kd.R_below (by (with_reducible repeat (first | apply Kd.R_alloc | apply Kd.R_drewN | apply Kd.R_drew)); exact (Kd.R_mono (Kd.R_far (p := ⟨gb1263, 1, none⟩) (Kd.R_far (p := ⟨gb1263, 0, none⟩) (Kd.R_types HO_1245001.out BK1263.out (by decide)) (fun _ hk => hk.2) (.int .i64 t1256)) (fun _ hk => hk.2) (.slice Ao60 t1257.length co60)) (fun _ h_ => h_.1))) hb); have n1_ := Aside0.mk (Kd.R_below (by (with_reducible repeat (first | apply Kd.R_alloc | apply Kd.R_drewN | apply Kd.R_drew)); exact (Kd.R_mono (Kd.R_far (p := ⟨gb1263, 1, none⟩) (Kd.R_far (p := ⟨gb1263, 0, none⟩) (Kd.R_types HO1259.out BK1263.out (by decide)) (fun _ hk => hk.2) (.int .i64 t1256)) (fun _ hk => hk.2) (.slice Ao60 t1257.length co60)) (fun _ h_ => h_.1))) hb); have n2_ := Aside0.mk (Kd.R_below (by (with_reducible repeat (first | apply Kd.R_alloc | apply Kd.R_drewN | apply Kd.R_drew)); exact (Kd.R_mono (Kd.R_far (p := ⟨gb1263, 1, none⟩) (Kd.R_far (p := ⟨gb1263, 0, none⟩) (Kd.R_types HO1262.out BK1263.out (by decide)) (fun _ hk => hk.2) (.int .i64 t1256)) (fun _ hk => hk.2) (.slice Ao60 t1257.length co60)) (fun _ h_ => h_.1))) hb); have n3_ := Aside0.mk (blk_below (g := gb1244) (o := .cells #[.int .i64 t1239, .slice Ao12 t1240.length co12] 29 (0, 0)) (by (with_reducible repeat (first | refine blk_drewN ?_ _ | refine blk_drew ?_ | refine blk_alloc ?_ _)); refine blk_far ?_ NB1244_1263.out _; (with_reducible repeat (first | refine blk_drewN ?_ _ | refine blk_drew ?_ | refine blk_alloc ?_ _)); refine blk_far ?_ NB1244_1263.out _; exact bP BK1244.out) hb); have n4_ := Aside0.mk (blk_below (g := gb1263) (o := .cells #[.int .i64 t1256, .slice Ao60 t1257.length co60] 29 (0, 0)) (by (with_reducible repeat (first | refine blk_drewN ?_ _ | refine blk_drew ?_ | refine blk_alloc ?_ _)); refine blk_put (cs := #[.int .i64 t1256, .slice none 0 0]) ?_ 1 _ rfl; (with_reducible repeat (first | refine blk_drewN ?_ _ | refine blk_drew ?_ | refine blk_alloc ?_ _)); refine blk_put (cs := #[.int .i64 0, .slice none 0 0]) ?_ 0 _ rfl; exact bP BK1263.out) hb); have n5_ := Aside0.mk (below_step (bW) hb); clear HO_1245001 HO1259 HO1262 BK1244 BK1263 HB; have HO_1245001 := n0_; have HO1259 := n1_; have HO1262 := n2_; have BK1244 := n3_; have BK1263 := n4_; have HB := n5_; clear n0_ n1_ n2_ n3_ n4_ n5_; (try clear hb); (try clear hb2); (try clear hk); (try clear hi); obtain ⟨hcz63_0, hcz63_1⟩ := cells2 BK1263.out; obtain ⟨hfz63_0, hfz63_1⟩ := frz2 BK1263.out) | (go_at_call 51; (with_reducible refine (impl_IsExpression.calls kj7 t1256 _ _ t1257 _ _ t1260 false _ ?side1 ?side2 ?side3 ?side4 A31.out (tabW HTab.out)).mono ?_); (case side1 => exact cP ((Kd.R_reads' HO1259.out).2.2)); (case side2 => exact (Kd.R_reads' HO1259.out).2.1); (case side3 => exact cP ((Kd.R_reads' HO1262.out).2.2)); (case side4 => exact (Kd.R_reads' HO1262.out).2.1); rintro e w64 ⟨rfl, hb⟩; have n0_ := Aside0.mk (Kd.R_below (rP HO_1245001.out) hb); have n1_ := Aside0.mk (Kd.R_below (rP HO1259.out) hb); have n2_ := Aside0.mk (Kd.R_below (rP HO1262.out) hb); have n3_ := Aside0.mk (blkB BK1244.out hb); have n4_ := Aside0.mk (blkB BK1263.out hb); have n5_ := Aside0.mk (below_step (bW) hb); clear HO_1245001 HO1259 HO1262 BK1244 BK1263 HB; have HO_1245001 := n0_; have HO1259 := n1_; have HO1262 := n2_; have BK1244 := n3_; have BK1263 := n4_; have HB := n5_; clear n0_ n1_ n2_ n3_ n4_ n5_; (try clear hb); (try clear hb2); (try clear hk); (try clear hi)))
       repeat (go_quiet (first | (go_at_call 52; (with_reducible refine (spec_DrawExpressionText.calls kj7 _ _ l0 t1256 t1257 t1260 _ ?side1 ?side2 A29.out).mono ?_); (case side1 => exact cP (Kd.C_below HR0.out HB.out)); (case side2 => exact HC0.out); rintro e w56 ⟨v1258, v1261, rfl, ho0, ho1, hb⟩; have n0_ := Aside0.mk (Kd.R_elder' (rP HO_1245001.out) (Kd.R_base ho0) hb); have n1_ := Aside0.mk (Kd.R_lower (Kd.R_new' ho0 (Kd.R_lt (rP HO_1245001.out))) (below_size (bW))); have n2_ := Aside0.mk (Kd.R_lower ho1 (below_size (bW))); have n3_ := Aside0.mk (blkB BK1244.out hb); have n4_ := Aside0.mk (below_step (bW) hb); clear HO_1245001 BK1244 HB; have HO_1245001 := n0_; have HO1259 := n1_; have HO1262 := n2_; have BK1244 := n3_; have HB := n4_; clear n0_ n1_ n2_ n3_ n4_; (try clear hb); (try clear hb2); (try clear hk); (try clear hi); (try clear ho0); (try clear ho1)) | ((with_reducible refine gate_dst (N := 11) rfl ?_); (try (refine gate_guard (by rfl) ?_; dsimp only)); refine boxS (N := 11) (cs := #[.int .i64 0, .slice none 0 0]) (t := 29) ?_; intro gb1263 hg w57 hbox hb; have n0_ := Aside0.mk (Kd.R_below (rP HO_1245001.out) hb); have n1_ := Aside0.mk (Kd.R_below (rP HO1259.out) hb); have n2_ := Aside0.mk (Kd.R_below (rP HO1262.out) hb); have n3_ := Aside0.mk (blkB BK1244.out hb); have n4_ := Aside0.mk (below_step (bW) hb); have n5_ := Aside0.mk (hbox); have n6_ := geW (w := w) hg; have n7_ := geW (w := w) hg; have n8_ := Aside0.mk ((by rw [hg]; exact Nat.ne_of_lt (blk_lt (g := gb1244) (o := .cells #[.int .i64 t1239, .slice Ao12 t1240.length co12] 29 (0, 0)) (bP BK1244.out)) : gb1244 ≠ gb1263)); have n9_ := Aside0.mk ((by rw [hg]; exact Nat.ne_of_gt (blk_lt (g := gb1244) (o := .cells #[.int .i64 t1239, .slice Ao12 t1240.length co12] 29 (0, 0)) (bP BK1244.out)) : gb1263 ≠ gb1244)); clear HO_1245001 HO1259 HO1262 BK1244 HB; have HO_1245001 := n0_; have HO1259 := n1_; have HO1262 := n2_; have BK1244 := n3_; have HB := n4_; have BK1263 := n5_; have GW1263 := n6_; have GE1263 := n7_; have NB1244_1263 := n8_; have NB1263_1244 := n9_; clear n0_ n1_ n2_ n3_ n4_ n5_ n6_ n7_ n8_ n9_ hb hbox hg; have hnb58 := NB1263_1244.out; have hnc58 := NB1244_1263.out; obtain ⟨hcz59_0, hcz59_1⟩ := cells2 BK1263.out; obtain ⟨hfz59_0, hfz59_1⟩ := frz2 BK1263.out; obtain ⟨Ao60, co60, eo60⟩ := Kd.R_slice HO1259.out; subst eo60; obtain ⟨Ao61, co61, eo61⟩ := Kd.R_slice HO1262.out; subst eo61) | (go_at_call 23; (with_reducible refine (impl_ExpressionText.calls kj7 t1256 _ _ t1257 _ _ t1260 t1264 t1265 _ ?side1 ?side2 ?side3 ?side4 A30.out (tabW HTab.out)).mono ?_); (case side1 => refine (Kd.R_reads' (e := 2) (base := w.heap.size) (ok := fun k_ => (True ∧ some k_ ≠ (.slice Ao12 t1240.length co12 : Value).ownBlock)) (n := t1257.length) (c := co60) ?_).2.2; exact (by (with_reducible repeat (first | apply Kd.R_alloc | apply Kd.R_drewN | apply Kd.R_drew)); exact (Kd.R_mono (Kd.R_far (p := ⟨gb1263, 1, none⟩) (Kd.R_far (p := ⟨gb1263, 0, none⟩) (Kd.R_types HO1259.out BK1263.out (by decide)) (fun _ hk => hk.2) (.int .i64 t1256)) (fun _ hk => hk.2) (.slice Ao60 t1257.length co60)) (fun _ h_ => h_.1)))); (case side2 => exact (Kd.R_reads' HO1259.out).2.1); (case side3 => refine (Kd.R_reads' (e := 84) (base := w.heap.size) (ok := fun k_ => True) (n := t1260.length) (c := co61) ?_).2.2; exact (by (with_reducible repeat (first | apply Kd.R_alloc | apply Kd.R_drewN | apply Kd.R_drew)); exact (Kd.R_mono (Kd.R_far (p := ⟨gb1263, 1, none⟩) (Kd.R_far (p := ⟨gb1263, 0, none⟩) (Kd.R_types HO1262.out BK1263.out (by decide)) (fun _ hk => hk.2) (.int .i64 t1256)) (fun _ hk => hk.2) (.slice Ao60 t1257.length co60)) (fun _ h_ => h_.1)))); (case side4 => exact (Kd.R_reads' HO1262.out).2.1); rintro e w62 ⟨rfl, hb⟩; have n0_ := Aside0.mk (Kd.R_below (by (with_reducible repeat (first | apply Kd.R_alloc | apply Kd.R_drewN | apply Kd.R_drew)); exact (Kd.R_mono (Kd.R_far (p := ⟨gb1263, 1, none⟩) (Kd.R_far (p := ⟨gb1263, 0, none⟩) (Kd.R_types HO_1245001.out BK1263.out (by decide)) (fun _ hk => hk.2) (.int .i64 t1256)) (fun _ hk => hk.2) (.slice Ao60 t1257.length co60)) (fun _ h_ => h_.1))) hb); have n1_ := Aside0.mk (Kd.R_below (by (with_reducible repeat (first | apply Kd.R_alloc | apply Kd.R_drewN | apply Kd.R_drew)); exact (Kd.R_mono (Kd.R_far (p := ⟨gb1263, 1, none⟩) (Kd.R_far (p := ⟨gb1263, 0, none⟩) (Kd.R_types HO1259.out BK1263.out (by decide)) (fun _ hk => hk.2) (.int .i64 t1256)) (fun _ hk => hk.2) (.slice Ao60 t1257.length co60)) (fun _ h_ => h_.1))) hb); have n2_ := Aside0.mk (Kd.R_below (by (with_reducible repeat (first | apply Kd.R_alloc | apply Kd.R_drewN | apply Kd.R_drew)); exact (Kd.R_mono (Kd.R_far (p := ⟨gb1263, 1, none⟩) (Kd.R_far (p := ⟨gb1263, 0, none⟩) (Kd.R_types HO1262.out BK1263.out (by decide)) (fun _ hk => hk.2) (.int .i64 t1256)) (fun _ hk => hk.2) (.slice Ao60 t1257.length co60)) (fun _ h_ => h_.1))) hb); have n3_ := Aside0.mk (blk_below (g := gb1244) (o := .cells #[.int .i64 t1239, .slice Ao12 t1240.length co12] 29 (0, 0)) (by (with_reducible repeat (first | refine blk_drewN ?_ _ | refine blk_drew ?_ | refine blk_alloc ?_ _)); refine blk_far ?_ NB1244_1263.out _; (with_reducible repeat (first | refine blk_drewN ?_ _ | refine blk_drew ?_ | refine blk_alloc ?_ _)); refine blk_far ?_ NB1244_1263.out _; exact bP BK1244.out) hb); have n4_ := Aside0.mk (blk_below (g := gb1263) (o := .cells #[.int .i64 t1256, .slice Ao60 t1257.length co60] 29 (0, 0)) (by (with_reducible repeat (first | refine blk_drewN ?_ _ | refine blk_drew ?_ | refine blk_alloc ?_ _)); refine blk_put (cs := #[.int .i64 t1256, .slice none 0 0]) ?_ 1 _ rfl; (with_reducible repeat (first | refine blk_drewN ?_ _ | refine blk_drew ?_ | refine blk_alloc ?_ _)); refine blk_put (cs := #[.int .i64 0, .slice none 0 0]) ?_ 0 _ rfl; exact bP BK1263.out) hb); have n5_ := Aside0.mk (below_step (bW) hb); clear HO_1245001 HO1259 HO1262 BK1244 BK1263 HB; have HO_1245001 := n0_; have HO1259 := n1_; have HO1262 := n2_; have BK1244 := n3_; have BK1263 := n4_; have HB := n5_; clear n0_ n1_ n2_ n3_ n4_ n5_; (try clear hb); (try clear hb2); (try clear hk); (try clear hi); obtain ⟨hcz63_0, hcz63_1⟩ := cells2 BK1263.out; obtain ⟨hfz63_0, hfz63_1⟩ := frz2 BK1263.out) | (go_at_call 51; (with_reducible refine (impl_IsExpression.calls kj7 t1256 _ _ t1257 _ _ t1260 false _ ?side1 ?side2 ?side3 ?side4 A31.out (tabW HTab.out)).mono ?_); (case side1 => exact cP ((Kd.R_reads' HO1259.out).2.2)); (case side2 => exact (Kd.R_reads' HO1259.out).2.1); (case side3 => exact cP ((Kd.R_reads' HO1262.out).2.2)); (case side4 => exact (Kd.R_reads' HO1262.out).2.1); rintro e w64 ⟨rfl, hb⟩; have n0_ := Aside0.mk (Kd.R_below (rP HO_1245001.out) hb); have n1_ := Aside0.mk (Kd.R_below (rP HO1259.out) hb); have n2_ := Aside0.mk (Kd.R_below (rP HO1262.out) hb); have n3_ := Aside0.mk (blkB BK1244.out hb); have n4_ := Aside0.mk (blkB BK1263.out hb); have n5_ := Aside0.mk (below_step (bW) hb); clear HO_1245001 HO1259 HO1262 BK1244 BK1263 HB; have HO_1245001 := n0_; have HO1259 := n1_; have HO1262 := n2_; have BK1244 := n3_; have BK1263 := n4_; have HB := n5_; clear n0_ n1_ n2_ n3_ n4_ n5_; (try clear hb); (try clear hb2); (try clear hk); (try clear hi))); try go_wp2_with (first | (go_at_call 52; (with_reducible refine (spec_DrawExpressionText.calls kj7 _ _ l0 t1256 t1257 t1260 _ ?side1 ?side2 A29.out).mono ?_); (case side1 => exact cP (Kd.C_below HR0.out HB.out)); (case side2 => exact HC0.out); rintro e w56 ⟨v1258, v1261, rfl, ho0, ho1, hb⟩; have n0_ := Aside0.mk (Kd.R_elder' (rP HO_1245001.out) (Kd.R_base ho0) hb); have n1_ := Aside0.mk (Kd.R_lower (Kd.R_new' ho0 (Kd.R_lt (rP HO_1245001.out))) (below_size (bW))); have n2_ := Aside0.mk (Kd.R_lower ho1 (below_size (bW))); have n3_ := Aside0.mk (blkB BK1244.out hb); have n4_ := Aside0.mk (below_step (bW) hb); clear HO_1245001 BK1244 HB; have HO_1245001 := n0_; have HO1259 := n1_; have HO1262 := n2_; have BK1244 := n3_; have HB := n4_; clear n0_ n1_ n2_ n3_ n4_; (try clear hb); (try clear hb2); (try clear hk); (try clear hi); (try clear ho0); (try clear ho1)) | ((with_reducible refine gate_dst (N := 11) rfl ?_); (try (refine gate_guard (by rfl) ?_; dsimp only)); refine boxS (N := 11) (cs := #[.int .i64 0, .slice none 0 0]) (t := 29) ?_; intro gb1263 hg w57 hbox hb; have n0_ := Aside0.mk (Kd.R_below (rP HO_1245001.out) hb); have n1_ := Aside0.mk (Kd.R_below (rP HO1259.out) hb); have n2_ := Aside0.mk (Kd.R_below (rP HO1262.out) hb); have n3_ := Aside0.mk (blkB BK1244.out hb); have n4_ := Aside0.mk (below_step (bW) hb); have n5_ := Aside0.mk (hbox); have n6_ := geW (w := w) hg; have n7_ := geW (w := w) hg; have n8_ := Aside0.mk ((by rw [hg]; exact Nat.ne_of_lt (blk_lt (g := gb1244) (o := .cells #[.int .i64 t1239, .slice Ao12 t1240.length co12] 29 (0, 0)) (bP BK1244.out)) : gb1244 ≠ gb1263)); have n9_ := Aside0.mk ((by rw [hg]; exact Nat.ne_of_gt (blk_lt (g := gb1244) (o := .cells #[.int .i64 t1239, .slice Ao12 t1240.length co12] 29 (0, 0)) (bP BK1244.out)) : gb1263 ≠ gb1244)); clear HO_1245001 HO1259 HO1262 BK1244 HB; have HO_1245001 := n0_; have HO1259 := n1_; have HO1262 := n2_; have BK1244 := n3_; have HB := n4_; have BK1263 := n5_; have GW1263 := n6_; have GE1263 := n7_; have NB1244_1263 := n8_; have NB1263_1244 := n9_; clear n0_ n1_ n2_ n3_ n4_ n5_ n6_ n7_ n8_ n9_ hb hbox hg; have hnb58 := NB1263_1244.out; have hnc58 := NB1244_1263.out; obtain ⟨hcz59_0, hcz59_1⟩ := cells2 BK1263.out; obtain ⟨hfz59_0, hfz59_1⟩ := frz2 BK1263.out; obtain ⟨Ao60, co60, eo60⟩ := Kd.R_slice HO1259.out; subst eo60; obtain ⟨Ao61, co61, eo61⟩ := Kd.R_slice HO1262.out; subst eo61) | (go_at_call 23; (with_reducible refine (impl_ExpressionText.calls kj7 t1256 _ _ t1257 _ _ t1260 t1264 t1265 _ ?side1 ?side2 ?side3 ?side4 A30.out (tabW HTab.out)).mono ?_); (case side1 => refine (Kd.R_reads' (e := 2) (base := w.heap.size) (ok := fun k_ => (True ∧ some k_ ≠ (.slice Ao12 t1240.length co12 : Value).ownBlock)) (n := t1257.length) (c := co60) ?_).2.2; exact (by (with_reducible repeat (first | apply Kd.R_alloc | apply Kd.R_drewN | apply Kd.R_drew)); exact (Kd.R_mono (Kd.R_far (p := ⟨gb1263, 1, none⟩) (Kd.R_far (p := ⟨gb1263, 0, none⟩) (Kd.R_types HO1259.out BK1263.out (by decide)) (fun _ hk => hk.2) (.int .i64 t1256)) (fun _ hk => hk.2) (.slice Ao60 t1257.length co60)) (fun _ h_ => h_.1)))); (case side2 => exact (Kd.R_reads' HO1259.out).2.1); (case side3 => refine (Kd.R_reads' (e := 84) (base := w.heap.size) (ok := fun k_ => True) (n := t1260.length) (c := co61) ?_).2.2; exact (by (with_reducible repeat (first | apply Kd.R_alloc | apply Kd.R_drewN | apply Kd.R_drew)); exact (Kd.R_mono (Kd.R_far (p := ⟨gb1263, 1, none⟩) (Kd.R_far (p := ⟨gb1263, 0, none⟩) (Kd.R_types HO1262.out BK1263.out (by decide)) (fun _ hk => hk.2) (.int .i64 t1256)) (fun _ hk => hk.2) (.slice Ao60 t1257.length co60)) (fun _ h_ => h_.1)))); (case side4 => exact (Kd.R_reads' HO1262.out).2.1); rintro e w62 ⟨rfl, hb⟩; have n0_ := Aside0.mk (Kd.R_below (by (with_reducible repeat (first | apply Kd.R_alloc | apply Kd.R_drewN | apply Kd.R_drew)); exact (Kd.R_mono (Kd.R_far (p := ⟨gb1263, 1, none⟩) (Kd.R_far (p := ⟨gb1263, 0, none⟩) (Kd.R_types HO_1245001.out BK1263.out (by decide)) (fun _ hk => hk.2) (.int .i64 t1256)) (fun _ hk => hk.2) (.slice Ao60 t1257.length co60)) (fun _ h_ => h_.1))) hb); have n1_ := Aside0.mk (Kd.R_below (by (with_reducible repeat (first | apply Kd.R_alloc | apply Kd.R_drewN | apply Kd.R_drew)); exact (Kd.R_mono (Kd.R_far (p := ⟨gb1263, 1, none⟩) (Kd.R_far (p := ⟨gb1263, 0, none⟩) (Kd.R_types HO1259.out BK1263.out (by decide)) (fun _ hk => hk.2) (.int .i64 t1256)) (fun _ hk => hk.2) (.slice Ao60 t1257.length co60)) (fun _ h_ => h_.1))) hb); have n2_ := Aside0.mk (Kd.R_below (by (with_reducible repeat (first | apply Kd.R_alloc | apply Kd.R_drewN | apply Kd.R_drew)); exact (Kd.R_mono (Kd.R_far (p := ⟨gb1263, 1, none⟩) (Kd.R_far (p := ⟨gb1263, 0, none⟩) (Kd.R_types HO1262.out BK1263.out (by decide)) (fun _ hk => hk.2) (.int .i64 t1256)) (fun _ hk => hk.2) (.slice Ao60 t1257.length co60)) (fun _ h_ => h_.1))) hb); have n3_ := Aside0.mk (blk_below (g := gb1244) (o := .cells #[.int .i64 t1239, .slice Ao12 t1240.length co12] 29 (0, 0)) (by (with_reducible repeat (first | refine blk_drewN ?_ _ | refine blk_drew ?_ | refine blk_alloc ?_ _)); refine blk_far ?_ NB1244_1263.out _; (with_reducible repeat (first | refine blk_drewN ?_ _ | refine blk_drew ?_ | refine blk_alloc ?_ _)); refine blk_far ?_ NB1244_1263.out _; exact bP BK1244.out) hb); have n4_ := Aside0.mk (blk_below (g := gb1263) (o := .cells #[.int .i64 t1256, .slice Ao60 t1257.length co60] 29 (0, 0)) (by (with_reducible repeat (first | refine blk_drewN ?_ _ | refine blk_drew ?_ | refine blk_alloc ?_ _)); refine blk_put (cs := #[.int .i64 t1256, .slice none 0 0]) ?_ 1 _ rfl; (with_reducible repeat (first | refine blk_drewN ?_ _ | refine blk_drew ?_ | refine blk_alloc ?_ _)); refine blk_put (cs := #[.int .i64 0, .slice none 0 0]) ?_ 0 _ rfl; exact bP BK1263.out) hb); have n5_ := Aside0.mk (below_step (bW) hb); clear HO_1245001 HO1259 HO1262 BK1244 BK1263 HB; have HO_1245001 := n0_; have HO1259 := n1_; have HO1262 := n2_; have BK1244 := n3_; have BK1263 := n4_; have HB := n5_; clear n0_ n1_ n2_ n3_ n4_ n5_; (try clear hb); (try clear hb2); (try clear hk); (try clear hi); obtain ⟨hcz63_0, hcz63_1⟩ := cells2 BK1263.out; obtain ⟨hfz63_0, hfz63_1⟩ := frz2 BK1263.out) | (go_at_call 51; (with_reducible refine (impl_IsExpression.calls kj7 t1256 _ _ t1257 _ _ t1260 false _ ?side1 ?side2 ?side3 ?side4 A31.out (tabW HTab.out)).mono ?_); (case side1 => exact cP ((Kd.R_reads' HO1259.out).2.2)); (case side2 => exact (Kd.R_reads' HO1259.out).2.1); (case side3 => exact cP ((Kd.R_reads' HO1262.out).2.2)); (case side4 => exact (Kd.R_reads' HO1262.out).2.1); rintro e w64 ⟨rfl, hb⟩; have n0_ := Aside0.mk (Kd.R_below (rP HO_1245001.out) hb); have n1_ := Aside0.mk (Kd.R_below (rP HO1259.out) hb); have n2_ := Aside0.mk (Kd.R_below (rP HO1262.out) hb); have n3_ := Aside0.mk (blkB BK1244.out hb); have n4_ := Aside0.mk (blkB BK1263.out hb); have n5_ := Aside0.mk (below_step (bW) hb); clear HO_1245001 HO1259 HO1262 BK1244 BK1263 HB; have HO_1245001 := n0_; have HO1259 := n1_; have HO1262 := n2_; have BK1244 := n3_; have BK1263 := n4_; have HB := n5_; clear n0_ n1_ n2_ n3_ n4_ n5_; (try clear hb); (try clear hb2); (try clear hk); (try clear hi))))
       go_ret
       exact ⟨eW, bW⟩
      ·rw [if_neg c55] at H
       have c55b0 : (t1265 == 1) = false := beq_eq_false_iff_ne.mpr c55
       have c55b1 : (t1265 != 1) = true := bne_iff_ne.mpr c55
       exact absurd (Option.some.inj H) (by rw [HTr_.out]; decide)
  ·rw [if_neg c7] at H
   have c7b0 : (t1248 == t1252) = false := beq_eq_false_iff_ne.mpr c7
   have c7b1 : (t1248 != t1252) = true := bne_iff_ne.mpr c7
   exact absurd (Option.some.inj H) (by rw [HTr_.out]; decide)
end Go.Proofs.YthbaocejgjpfoaaDoor.P
end M0
