import Derived.ArgAppend
import Derived.Below
import Derived.BigQuiet
import Derived.Deep.AppendLies
import Derived.Deep.CutBlock
import Derived.Deep.DeepCutAuto
import Derived.Deep.Draws
import Derived.Deep.LoopGhost
import Derived.Deep.OwnRows
import Derived.Deep.QuietTactic
import Derived.Deep.RegionHeld3
import Derived.KernelRfl
import Derived.Laws.BitsLemmas
import Derived.Laws.BytesArg
import Derived.Laws.IdiomCopy
import Derived.Laws.MakeOwn
import Derived.Laws.OwnMore
import Derived.Laws.Rows
import Derived.Laws.Slices
import Derived.Laws.StructEq
import Derived.Lib.AppendStr
import Derived.Lib.ConvBytes
import Derived.Lib.SliceRun
import Derived.Maps.AppendAt
import Derived.OrdersHeld
import Derived.OwnWalk
import Derived.RowKit
import Derived.RowKit3
import Derived.Shelf.Abstract
import Derived.Shelf.Spec.TrailingZeros
import Derived.Tactics
import Derived.Test.YthbaocejgjpfoaaDoorProg
import Derived.WalkKit
import Derived.WideLaws
import Derived.Test.YthbaocejgjpfoaaDoorCFnExactIsAsynchronous2
import Derived.Test.YthbaocejgjpfoaaDoorCFnExactIsAsynchronous4
import Derived.Test.YthbaocejgjpfoaaDoorCFnExactIsAsynchronous7
import Derived.Test.YthbaocejgjpfoaaDoorCFnExactIsAsynchronous8
section M0
namespace Go.Proofs.YthbaocejgjpfoaaDoor.P
open Go.RowKit Go.Proofs.YthbaocejgjpfoaaDoor.Sh Go.Proofs.YthbaocejgjpfoaaDoorW.PrintWords Go.Proofs.YthbaocejgjpfoaaDoorW.PrintLast Go.Proofs.YthbaocejgjpfoaaDoorW.PrintMore
attribute [local go_sem] max2_int min2_int max_two min_two max_three min_three max_four min_four   -- for this text's walks alone
set_option linter.unusedVariables false
set_option linter.unusedSimpArgs false

/-! ### laws_toJoint: function 128 -/
def laws_toJoint.f (k : Nat) (a0_0 : Int) (l0_1 : List Int) (l0_2 : List Int) : Option (Int × List Int × List Int) := (laws_toInt64S.f k l0_1).bind fun t501 => ((laws_toInt64S.f k l0_2).bind fun t504 => (some (a0_0, t501, t504)))
theorem laws_toJoint.mono : ∀ a0 a1 a2 k, LeO (laws_toJoint.f k a0 a1 a2) (laws_toJoint.f (k + 1) a0 a1 a2) := by
 intro a0 a1 a2 k
 unfold laws_toJoint.f
 repeat' first
   | (with_reducible exact laws_toInt64S.mono _ _)
   | (with_reducible exact LeO.refl _)
   | (with_reducible exact LeO.none _)
   | (with_reducible refine LeO.ite ?_ ?_)
   | (with_reducible refine LeO.bind ?_ (fun _ => ?_))
   | exact laws_toInt64S.mono _ _
   | exact LeO.none _
   | refine LeO.ite ?_ ?_
   | refine LeO.bind ?_ (fun _ => ?_)
set_option maxHeartbeats 8000000 in
set_option maxRecDepth 100000 in
theorem laws_toJoint.calls (k : Nat) (a0_0 : Int) (A0_1 : Option Addr) (c0_1 : Nat) (l0_1 : List Int) (A0_2 : Option Addr) (c0_2 : Nat) (l0_2 : List Int) (r1 : Int) (r2 : List Int) (r3 : List Int) (w : World) (hr0_1 : Kd.C (Kd.int .i64) w A0_1 l0_1.length l0_1) (hc0_1 : l0_1.length ≤ c0_1) (hr0_2 : Kd.C (Kd.int .i64) w A0_2 l0_2.length l0_2) (hc0_2 : l0_2.length ≤ c0_2) (h : laws_toJoint.f k a0_0 l0_1 l0_2 = some (r1, r2, r3)) :
  Calls Tryd.prog 128 #[.agg #[.int .i64 a0_0, .slice A0_1 l0_1.length c0_1, .slice A0_2 l0_2.length c0_2]] w fun e w' => ∃ v1_ v2_ : Value, e = .returned (.agg #[.int .i64 r1, v1_, v2_]) ∧ Kd.R (Kd.int .i64) 2 w' w.heap.size (fun k_ => some k_ ≠ (v2_ : Value).ownBlock) v1_ r2 ∧ Kd.R (Kd.int .i64) 2 w' w.heap.size (fun k_ => some k_ ≠ (v1_ : Value).ownBlock) v2_ r3 ∧ Below w.heap.size w w' := by
 have hu147 := Tryd.underlying147
 have hu149 := Tryd.underlying149
 have HR0_1 := Aside0.mk hr0_1
 have HC0_1 := Aside0.mk hc0_1
 clear hr0_1 hc0_1
 have HR0_2 := Aside0.mk hr0_2
 have HC0_2 := Aside0.mk hc0_2
 clear hr0_2 hc0_2
 have HB := Aside0.mk (Below.refl w.heap.size w)
 have H : ((laws_toInt64S.f k l0_1).bind fun t501 => ((laws_toInt64S.f k l0_2).bind fun t504 => (some (a0_0, t501, t504)))) = some (r1, r2, r3) := h
 clear h
 replace H := Option.bind_eq_some_iff.mp H
 obtain ⟨t501, A20, H⟩ := H
 replace H : ((laws_toInt64S.f k l0_2).bind fun t504 => (some (a0_0, t501, t504))) = some (r1, r2, r3) := H
 have A2 := Aside0.mk A20
 clear A20
 replace H := Option.bind_eq_some_iff.mp H
 obtain ⟨t504, A30, H⟩ := H
 replace H : (some (a0_0, t501, t504)) = some (r1, r2, r3) := H
 have A3 := Aside0.mk A30
 clear A30
 simp only [Option.some.injEq, Prod.mk.injEq] at H
 obtain ⟨rfl, rfl, rfl⟩ := H
 go_enter Tryd.func128, Tryd.ntmps128
 go_wp2_with (first | ((with_reducible refine gate_dst (N := 1) rfl ?_); refine boxS (N := 1) (cs := #[.int .i64 a0_0, .slice A0_1 l0_1.length c0_1, .slice A0_2 l0_2.length c0_2]) (t := 147) ?_; intro gb498 hg w4 hbox hb; have n0_ := Aside0.mk (below_step (bW) hb); have n1_ := Aside0.mk (hbox); have n2_ := geW (w := w) hg; have n3_ := geW (w := w) hg; clear HB; have HB := n0_; have BK498 := n1_; have GW498 := n2_; have GE498 := n3_; clear n0_ n1_ n2_ n3_; clear hb hbox hg) | ((with_reducible refine gate_dst (N := 2) rfl ?_); refine boxS (N := 2) (cs := #[.int .i64 0, .slice none 0 0, .slice none 0 0]) (t := 149) ?_; intro gb499 hg w5 hbox hb; have n0_ := Aside0.mk (blkB BK498.out hb); have n1_ := Aside0.mk (below_step (bW) hb); have n2_ := Aside0.mk (hbox); have n3_ := geW (w := w) hg; have n4_ := geW (w := w) hg; have n5_ := Aside0.mk ((by rw [hg]; exact Nat.ne_of_lt (blk_lt (g := gb498) (o := .cells #[.int .i64 a0_0, .slice A0_1 l0_1.length c0_1, .slice A0_2 l0_2.length c0_2] 147 (0, 0)) (bP BK498.out)) : gb498 ≠ gb499)); have n6_ := Aside0.mk ((by rw [hg]; exact Nat.ne_of_gt (blk_lt (g := gb498) (o := .cells #[.int .i64 a0_0, .slice A0_1 l0_1.length c0_1, .slice A0_2 l0_2.length c0_2] 147 (0, 0)) (bP BK498.out)) : gb499 ≠ gb498)); clear BK498; clear HB; have BK498 := n0_; have HB := n1_; have BK499 := n2_; have GW499 := n3_; have GE499 := n4_; have NB498_499 := n5_; have NB499_498 := n6_; clear n0_ n1_ n2_ n3_ n4_ n5_ n6_; clear hb hbox hg) | ((with_reducible refine gate_dst (N := 3) rfl ?_); refine boxS (N := 3) (cs := #[.int .i64 0, .slice none 0 0, .slice none 0 0]) (t := 149) ?_; intro gb500 hg w6 hbox hb; have n0_ := Aside0.mk (blkB BK498.out hb); have n1_ := Aside0.mk (blkB BK499.out hb); have n2_ := Aside0.mk (below_step (bW) hb); have n3_ := Aside0.mk (hbox); have n4_ := geW (w := w) hg; have n5_ := geW (w := w) hg; have n6_ := Aside0.mk ((by rw [hg]; exact Nat.ne_of_lt (blk_lt (g := gb498) (o := .cells #[.int .i64 a0_0, .slice A0_1 l0_1.length c0_1, .slice A0_2 l0_2.length c0_2] 147 (0, 0)) (bP BK498.out)) : gb498 ≠ gb500)); have n7_ := Aside0.mk ((by rw [hg]; exact Nat.ne_of_gt (blk_lt (g := gb498) (o := .cells #[.int .i64 a0_0, .slice A0_1 l0_1.length c0_1, .slice A0_2 l0_2.length c0_2] 147 (0, 0)) (bP BK498.out)) : gb500 ≠ gb498)); have n8_ := Aside0.mk ((by rw [hg]; exact Nat.ne_of_lt (blk_lt (g := gb499) (o := .cells #[.int .i64 0, .slice none 0 0, .slice none 0 0] 149 (0, 0)) (bP BK499.out)) : gb499 ≠ gb500)); have n9_ := Aside0.mk ((by rw [hg]; exact Nat.ne_of_gt (blk_lt (g := gb499) (o := .cells #[.int .i64 0, .slice none 0 0, .slice none 0 0] 149 (0, 0)) (bP BK499.out)) : gb500 ≠ gb499)); clear BK498; clear BK499; clear HB; have BK498 := n0_; have BK499 := n1_; have HB := n2_; have BK500 := n3_; have GW500 := n4_; have GE500 := n5_; have NB498_500 := n6_; have NB500_498 := n7_; have NB499_500 := n8_; have NB500_499 := n9_; clear n0_ n1_ n2_ n3_ n4_ n5_ n6_ n7_ n8_ n9_; clear hb hbox hg; have hnb7 := NB498_499.out; have hnc7 := NB499_498.out; have hnb8 := NB498_500.out; have hnc8 := NB500_498.out; obtain ⟨hcz9_0, hcz9_1, hcz9_2⟩ := cells3 BK498.out; obtain ⟨hfz9_0, hfz9_1, hfz9_2⟩ := frz3 BK498.out; have hnb10 := NB500_499.out; have hnc10 := NB499_500.out; obtain ⟨hcz11_0, hcz11_1, hcz11_2⟩ := cells3 BK500.out; obtain ⟨hfz11_0, hfz11_1, hfz11_2⟩ := frz3 BK500.out) | ((with_reducible refine gate_callee (f := 47) rfl ?_); refine goesS (some 9) Tryd.func47 #[.slice A0_1 l0_1.length c0_1] ?_; (with_reducible refine (laws_toInt64S.calls k _ _ l0_1 t501 _ ?side1 ?side2 A2.out).mono ?_); (case side1 => exact Kd.C_below HR0_1.out (bW)); (case side2 => exact HC0_1.out); rintro e w12 ⟨v502, rfl, ho0, hb⟩; refine ⟨_, rfl, ?_⟩; have n0_ := Aside0.mk (Kd.R_lower ho0 (below_size (bW))); have n1_ := Aside0.mk (blk_below (g := gb498) (o := .cells #[.int .i64 a0_0, .slice A0_1 l0_1.length c0_1, .slice A0_2 l0_2.length c0_2] 147 (0, 0)) (by (with_reducible repeat (first | refine blk_drewN ?_ _ | refine blk_drew ?_ | refine blk_alloc ?_ _)); refine blk_far ?_ NB498_500.out _; exact bP BK498.out) hb); have n2_ := Aside0.mk (blk_below (g := gb499) (o := .cells #[.int .i64 0, .slice none 0 0, .slice none 0 0] 149 (0, 0)) (by (with_reducible repeat (first | refine blk_drewN ?_ _ | refine blk_drew ?_ | refine blk_alloc ?_ _)); refine blk_far ?_ NB499_500.out _; exact bP BK499.out) hb); have n3_ := Aside0.mk (blk_below (g := gb500) (o := .cells #[.int .i64 a0_0, .slice none 0 0, .slice none 0 0] 149 (0, 0)) (by (with_reducible repeat (first | refine blk_drewN ?_ _ | refine blk_drew ?_ | refine blk_alloc ?_ _)); refine blk_put (cs := #[.int .i64 0, .slice none 0 0, .slice none 0 0]) ?_ 0 _ rfl; exact bP BK500.out) hb); have n4_ := Aside0.mk (below_step (bW) hb); clear BK498; clear BK499; clear BK500; clear HB; have HO503 := n0_; have BK498 := n1_; have BK499 := n2_; have BK500 := n3_; have HB := n4_; clear n0_ n1_ n2_ n3_ n4_; (try clear hb); (try clear hb2); (try clear hk); (try clear hi); (try clear ho0); obtain ⟨Ao13, co13, eo13⟩ := Kd.R_slice HO503.out; subst eo13; obtain ⟨hcz14_0, hcz14_1, hcz14_2⟩ := cells3 BK500.out; obtain ⟨hfz14_0, hfz14_1, hfz14_2⟩ := frz3 BK500.out; obtain ⟨hcz15_0, hcz15_1, hcz15_2⟩ := cells3 BK498.out; obtain ⟨hfz15_0, hfz15_1, hfz15_2⟩ := frz3 BK498.out) | ((with_reducible refine gate_callee (f := 47) rfl ?_); refine goesS (some 13) Tryd.func47 #[.slice A0_2 l0_2.length c0_2] ?_; (with_reducible refine (laws_toInt64S.calls k _ _ l0_2 t504 _ ?side1 ?side2 A3.out).mono ?_); (case side1 => exact Kd.C_below HR0_2.out (bW)); (case side2 => exact HC0_2.out); rintro e w16 ⟨v505, rfl, ho0, hb⟩; refine ⟨_, rfl, ?_⟩; have n0_ := Aside0.mk (Kd.R_elder' (by (with_reducible repeat (first | apply Kd.R_alloc | apply Kd.R_drewN | apply Kd.R_drew)); exact (Kd.R_mono (Kd.R_far (p := ⟨gb500, 1, none⟩) (Kd.R_types HO503.out BK500.out (by decide)) (fun _ hk => hk.2) (.slice Ao13 t501.length co13)) (fun _ h_ => h_.1))) (Kd.R_base ho0) hb); have n1_ := Aside0.mk (Kd.R_lower (Kd.R_new' ho0 (Kd.R_lt (by (with_reducible repeat (first | apply Kd.R_alloc | apply Kd.R_drewN | apply Kd.R_drew)); exact (Kd.R_mono (Kd.R_far (p := ⟨gb500, 1, none⟩) (Kd.R_types HO503.out BK500.out (by decide)) (fun _ hk => hk.2) (.slice Ao13 t501.length co13)) (fun _ h_ => h_.1))))) (below_size (bW))); have n2_ := Aside0.mk (blk_below (g := gb498) (o := .cells #[.int .i64 a0_0, .slice A0_1 l0_1.length c0_1, .slice A0_2 l0_2.length c0_2] 147 (0, 0)) (by (with_reducible repeat (first | refine blk_drewN ?_ _ | refine blk_drew ?_ | refine blk_alloc ?_ _)); refine blk_far ?_ NB498_500.out _; exact bP BK498.out) hb); have n3_ := Aside0.mk (blk_below (g := gb499) (o := .cells #[.int .i64 0, .slice none 0 0, .slice none 0 0] 149 (0, 0)) (by (with_reducible repeat (first | refine blk_drewN ?_ _ | refine blk_drew ?_ | refine blk_alloc ?_ _)); refine blk_far ?_ NB499_500.out _; exact bP BK499.out) hb); have n4_ := Aside0.mk (blk_below (g := gb500) (o := .cells #[.int .i64 a0_0, .slice Ao13 t501.length co13, .slice none 0 0] 149 (0, 0)) (by (with_reducible repeat (first | refine blk_drewN ?_ _ | refine blk_drew ?_ | refine blk_alloc ?_ _)); refine blk_put (cs := #[.int .i64 a0_0, .slice none 0 0, .slice none 0 0]) ?_ 1 _ rfl; exact bP BK500.out) hb); have n5_ := Aside0.mk (below_step (bW) hb); clear HO503; clear BK498; clear BK499; clear BK500; clear HB; have HO503 := n0_; have HO506 := n1_; have BK498 := n2_; have BK499 := n3_; have BK500 := n4_; have HB := n5_; clear n0_ n1_ n2_ n3_ n4_ n5_; (try clear hb); (try clear hb2); (try clear hk); (try clear hi); (try clear ho0); obtain ⟨Ao17, co17, eo17⟩ := Kd.R_slice HO506.out; subst eo17; obtain ⟨hcz18_0, hcz18_1, hcz18_2⟩ := cells3 BK500.out; obtain ⟨hfz18_0, hfz18_1, hfz18_2⟩ := frz3 BK500.out; obtain ⟨hcz19_0, hcz19_1, hcz19_2⟩ := cells3 BK499.out; obtain ⟨hfz19_0, hfz19_1, hfz19_2⟩ := frz3 BK499.out))
 refine bodyPost_ret (results_cell_row rfl _ _ gb499 149 #[.int .i64 a0_0, .slice Ao13 t501.length co13, .slice Ao17 t504.length co17] (0, 0) _ rfl (by (with_reducible repeat (first | refine blk_drewN ?_ _ | refine blk_drew ?_ | refine blk_alloc ?_ _)); refine blk_put (cs := #[.int .i64 a0_0, .slice Ao13 t501.length co13, .slice none 0 0]) ?_ 2 _ rfl; (with_reducible repeat (first | refine blk_drewN ?_ _ | refine blk_drew ?_ | refine blk_alloc ?_ _)); refine blk_put (cs := #[.int .i64 a0_0, .slice none 0 0, .slice none 0 0]) ?_ 1 _ rfl; (with_reducible repeat (first | refine blk_drewN ?_ _ | refine blk_drew ?_ | refine blk_alloc ?_ _)); refine blk_put (cs := #[.int .i64 0, .slice none 0 0, .slice none 0 0]) ?_ 0 _ rfl; (with_reducible repeat (first | refine blk_drewN ?_ _ | refine blk_drew ?_ | refine blk_alloc ?_ _)); refine blk_far ?_ NB499_500.out _; exact bP BK499.out) Tryd.underlying149 rfl (by kernel_rfl)) rfl ?_
 exact ⟨_, _, eW, by (with_reducible repeat (first | apply Kd.R_alloc | apply Kd.R_drewN | apply Kd.R_drew)); exact Kd.R_mono (Kd.R_far (p := ⟨gb499, 2, none⟩) (Kd.R_far (p := ⟨gb499, 1, none⟩) (Kd.R_far (p := ⟨gb499, 0, none⟩) (Kd.R_far (p := ⟨gb500, 2, none⟩) (Kd.R_types (Kd.R_types HO503.out BK500.out (by decide)) BK499.out (by decide)) (fun _ hk => hk.1.2) (.slice Ao17 t504.length co17)) (fun _ hk => hk.2) (.int .i64 a0_0)) (fun _ hk => hk.2) (.slice Ao13 t501.length co13)) (fun _ hk => hk.2) (.slice Ao17 t504.length co17)) (fun _ hk => hk.1.1.2), by (with_reducible repeat (first | apply Kd.R_alloc | apply Kd.R_drewN | apply Kd.R_drew)); exact Kd.R_mono (Kd.R_far (p := ⟨gb499, 2, none⟩) (Kd.R_far (p := ⟨gb499, 1, none⟩) (Kd.R_far (p := ⟨gb499, 0, none⟩) (Kd.R_far (p := ⟨gb500, 2, none⟩) (Kd.R_types (Kd.R_types HO506.out BK500.out (by decide)) BK499.out (by decide)) (fun _ hk => hk.1.2) (.slice Ao17 t504.length co17)) (fun _ hk => hk.2) (.int .i64 a0_0)) (fun _ hk => hk.2) (.slice Ao13 t501.length co13)) (fun _ hk => hk.2) (.slice Ao17 t504.length co17)) (fun _ hk => hk.1.1.2), bW⟩

/-! ### laws_toJointS: function 78 -/
def laws_toJointS.l0 : Nat → List (S147) → List (S149) → Int → Option ((List (S149)))
 | 0, _, _, _ => none
 | k + 1, x0, x3, x4 => if x4 < (x0.length : Int) then (if 0 ≤ x4 then ((laws_toJoint.f k ((rd_T147 x0 x4).f0) ((rd_T147 x0 x4).f1) ((rd_T147 x0 x4).f2)).bind fun bt511 => (if x4 < (x3.length : Int) then (laws_toJointS.l0 k x0 (x3.set (x4 : Int).toNat (⟨bt511.1, bt511.2.1, bt511.2.2⟩ : S149)) (wrap64 (x4 + 1))) else (none))) else (none)) else (some x3)
def laws_toJointS.f (k : Nat) (l0 : List (S147)) : Option ((List (S149))) := if 0 ≤ (l0.length : Int) then (if ((l0.length : Int) : Int).toNat ≤ 5026338869833 then (laws_toJointS.l0 k l0 (List.replicate ((l0.length : Int) : Int).toNat z149) 0) else (none)) else (none)
theorem laws_toJointS.mono_l : ∀ k, (∀ y0 y1 y2, LeO (laws_toJointS.l0 k y0 y1 y2) (laws_toJointS.l0 (k + 1) y0 y1 y2))
 | 0 => fun _ _ _ r h => by simp [laws_toJointS.l0] at h
 | k + 1 => by
  have ih0 := laws_toJointS.mono_l k
  ·intro y0 y1 y2
   unfold laws_toJointS.l0
   repeat' first
   | (with_reducible exact ih0 _ _ _)
   | (with_reducible exact laws_toJoint.mono _ _ _ _)
   | (with_reducible exact LeO.refl _)
   | (with_reducible exact LeO.none _)
   | (with_reducible refine LeO.ite ?_ ?_)
   | (with_reducible refine LeO.bind ?_ (fun _ => ?_))
   | exact ih0 _ _ _
   | exact laws_toJoint.mono _ _ _ _
   | exact LeO.none _
   | refine LeO.ite ?_ ?_
   | refine LeO.bind ?_ (fun _ => ?_)
theorem laws_toJointS.mono : ∀ a0 k, LeO (laws_toJointS.f k a0) (laws_toJointS.f (k + 1) a0) := by
 intro a0 k
 have ih0 := laws_toJointS.mono_l k
 unfold laws_toJointS.f
 repeat' first
   | (with_reducible exact ih0 _ _ _)
   | (with_reducible exact laws_toJoint.mono _ _ _ _)
   | (with_reducible exact LeO.refl _)
   | (with_reducible exact LeO.none _)
   | (with_reducible refine LeO.ite ?_ ?_)
   | (with_reducible refine LeO.bind ?_ (fun _ => ?_))
   | exact ih0 _ _ _
   | exact laws_toJoint.mono _ _ _ _
   | exact LeO.none _
   | refine LeO.ite ?_ ?_
   | refine LeO.bind ?_ (fun _ => ?_)
set_option maxHeartbeats 8000000 in
set_option maxRecDepth 100000 in
theorem laws_toJointS.calls (k : Nat) (A0 : Option Addr) (c0 : Nat) (l0 : List (S147)) (r : List (S149)) (w : World) (hr0 : Kd.C k147 w A0 l0.length l0) (hc0 : l0.length ≤ c0) (h : laws_toJointS.f k l0 = some r) :
  Calls Tryd.prog 78 #[.slice A0 l0.length c0] w fun e w' => ∃ v0_ : Value, e = .returned (v0_) ∧ Kd.S k149 149 w' w.heap.size (fun _ => True) v0_ r ∧ Below w.heap.size w w' := by
 have hu147 := Tryd.underlying147
 have hu149 := Tryd.underlying149
 have HR0 := Aside0.mk hr0
 have HC0 := Aside0.mk hc0
 clear hr0 hc0
 have HB := Aside0.mk (Below.refl w.heap.size w)
 have H : (if 0 ≤ (l0.length : Int) then (if ((l0.length : Int) : Int).toNat ≤ 5026338869833 then (laws_toJointS.l0 k l0 (List.replicate ((l0.length : Int) : Int).toNat z149) 0) else (none)) else (none)) = some r := h
 clear h
 by_cases c2 : 0 ≤ (l0.length : Int)
 ·rw [if_pos c2] at H
  have c2b0 := eq_true c2
  have c2b1 : decide (0 ≤ (l0.length : Int)) = true := decide_eq_true c2
  clear c2
  by_cases c3 : ((l0.length : Int) : Int).toNat ≤ 5026338869833
  ·rw [if_pos c3] at H
   have c3b0 := eq_true c3
   have c3b1 : decide (((l0.length : Int) : Int).toNat ≤ 5026338869833) = true := decide_eq_true c3
   clear c3
   obtain ⟨y507, hy507⟩ : ∃ y_ : List (S149), y_ = (List.replicate ((l0.length : Int) : Int).toNat z149) := ⟨_, rfl⟩
   replace H : (laws_toJointS.l0 k l0 y507 0) = some r := by first | (rw [hy507]; with_reducible exact H) | (have H2_ := (Option.bind_some _ _).symm.trans H; rw [hy507]; with_reducible exact H2_) | (have H2_ := (Option.bind_some _ _).symm.trans H; with_reducible exact H2_) | with_reducible exact H | (rw [hy507]; exact H) | exact H
   have Ny507 := Aside0.mk hy507
   clear hy507
   have H' := Aside0.mk H
   clear H
   go_enter Tryd.func78, Tryd.ntmps78
   go_wp2_with (first | ((with_reducible refine gate_dst (N := 7) rfl ?_); refine Kd.S_make k149 _ 149 rfl (N := 7) rfl 63 _ _ rfl (l0.length : Int) rfl rfl Tryd.underlying63 (.agg #[(.int .i64 0), (.slice none 0 0), (.slice none 0 0)]) 56 info149 rfl (by decide) (by omega) z149 (ok := fun _ => True) (okp := fun _ => True) (k149_mkM _ _ _ z149 (Kd.R_nil _ _ _ _ _) (Kd.R_nil _ _ _ _ _)) (fun _ hk => hk) trivial (ofD) (Nat.le_trans (Nat.mul_le_mul_right _ (ofD : (l0.length : Int).toNat ≤ 5026338869833)) (by omega)) (Below.refl _ _) (Nat.le_refl _) ?_; intro v508 w4 ho5 hb hg_ hnew_; clear hg_ hnew_; (first | rw [← Ny507.out] at ho5 | (simp only [Int.reduceToNat] at ho5; rw [← Ny507.out] at ho5)); have n0_ := Aside0.mk (Kd.S_lower ho5 (below_size (bW))); have n1_ := Aside0.mk (below_step (bW) hb); clear HB; have HO509 := n0_; have HB := n1_; clear n0_ n1_; clear hb ho5))
   go_loopg [4] k (fun kq v4 w' => ∃ (x3_1 : List (S149)) (x4_1 : Int), v4 = .int .i64 x4_1 ∧ Aside0 (laws_toJointS.l0 kq l0 x3_1 x4_1 = some r) ∧ Aside0 (kq ≤ k) ∧ Aside0 (Kd.S k149 149 w' w.heap.size (fun _ => True) v508 x3_1) ∧ Aside0 (Below w.heap.size w w'))
   case atStart => exact ⟨(y507), (0), (eW), H', ⟨Nat.le_refl _⟩, ⟨(sP HO509.out)⟩, ⟨bW⟩⟩
   case round =>
    clear H'
    try clear c2
    try clear c2b0
    try clear c2b1
    try clear p2
    try clear c3
    try clear c3b0
    try clear c3b1
    obtain ⟨x3_1, x4_1, rfl, HA, HK1, HO_3, HB⟩ := hrel
    cases gk with
    | zero => exact absurd HA.out (by simp [laws_toJointS.l0])
    | succ k1 =>
     have H := HA.out
     clear HA
     simp only [laws_toJointS.l0] at H
     by_cases c6 : x4_1 < (l0.length : Int)
     ·rw [if_pos c6] at H
      have c6b0 : decide (x4_1 < (l0.length : Int)) = true := decide_eq_true c6
      clear c6
      by_cases c7 : 0 ≤ x4_1
      ·rw [if_pos c7] at H
       have c7b0 : decide (0 ≤ x4_1) = true := decide_eq_true c7
       clear c7
       replace H := Option.bind_eq_some_iff.mp H
       obtain ⟨⟨t511, t512, t515⟩, A80, H⟩ := H
       replace H : (if x4_1 < (x3_1.length : Int) then (laws_toJointS.l0 k1 l0 (x3_1.set (x4_1 : Int).toNat (⟨t511, t512, t515⟩ : S149)) (wrap64 (x4_1 + 1))) else (none)) = some r := H
       have A8 := Aside0.mk A80
       clear A80
       by_cases c9 : x4_1 < (x3_1.length : Int)
       ·rw [if_pos c9] at H
        have c9b0 : decide (x4_1 < (x3_1.length : Int)) = true := decide_eq_true c9
        clear c9
        obtain ⟨y518, hy518⟩ : ∃ y_ : List (S149), y_ = (x3_1.set (x4_1 : Int).toNat (⟨t511, t512, t515⟩ : S149)) := ⟨_, rfl⟩
        replace H : (laws_toJointS.l0 k1 l0 y518 (wrap64 (x4_1 + 1))) = some r := by first | (rw [hy518]; with_reducible exact H) | (have H2_ := (Option.bind_some _ _).symm.trans H; rw [hy518]; with_reducible exact H2_) | (have H2_ := (Option.bind_some _ _).symm.trans H; with_reducible exact H2_) | with_reducible exact H | (rw [hy518]; exact H) | exact H
        have Ny518 := Aside0.mk hy518
        clear hy518
        have H' := Aside0.mk H
        clear H
        have p510 : 0 ≤ (x4_1 : Int) := ofD
        have q510 : x4_1 < (l0.length : Int) := ofD
        obtain ⟨ad510, A510_1, c510_1, A510_2, c510_2, e510, hx510_0, hx510_1, hx510_2, hl510_1, hi510_1, hl510_2, hi510_2⟩ := at_T147 HR0.out x4_1 p510 q510
        cases e510
        replace hx510_0 := (HB.out.cell (World.block_lt_of_cell? w _ hx510_0)).trans hx510_0
        replace hx510_1 := (HB.out.cell (World.block_lt_of_cell? w _ hx510_1)).trans hx510_1
        replace hx510_2 := (HB.out.cell (World.block_lt_of_cell? w _ hx510_2)).trans hx510_2
        have HR510_1 := Aside0.mk hi510_1
        have HC510_1 := Aside0.mk hl510_1
        clear hi510_1 hl510_1
        have HR510_2 := Aside0.mk hi510_2
        have HC510_2 := Aside0.mk hl510_2
        clear hi510_2 hl510_2
        replace p510 := eq_true p510
        replace q510 := eq_true q510
        go_wp2_with (first | ((with_reducible refine gate_callee (f := 128) rfl ?_); refine goesS (some 20) Tryd.func128 #[.agg #[.int .i64 ((rd_T147 l0 x4_1).f0), .slice A510_1 ((rd_T147 l0 x4_1).f1).length c510_1, .slice A510_2 ((rd_T147 l0 x4_1).f2).length c510_2]] ?_; (with_reducible refine (laws_toJoint.calls k1 ((rd_T147 l0 x4_1).f0) _ _ ((rd_T147 l0 x4_1).f1) _ _ ((rd_T147 l0 x4_1).f2) t511 t512 t515 _ ?side1 ?side2 ?side3 ?side4 A8.out).mono ?_); (case side1 => exact cP (Kd.C_below HR510_1.out HB.out)); (case side2 => exact HC510_1.out); (case side3 => exact cP (Kd.C_below HR510_2.out HB.out)); (case side4 => exact HC510_2.out); rintro e w11 ⟨v513, v516, rfl, ho0, ho1, hb⟩; refine ⟨_, rfl, ?_⟩; have n0_ := Aside0.mk (Kd.S_mono (Kd.S_told (Kd.S_told (Kd.S_old (sP HO_3.out) hb) (Kd.R_base ho0)) (Kd.R_base ho1)) (fun _ h_ => h_.1)); have n1_ := Aside0.mk (Kd.R_lower ho0 (below_size (bW))); have n2_ := Aside0.mk (Kd.R_lower ho1 (below_size (bW))); have n3_ := Aside0.mk (below_step (bW) hb); clear HO_3; clear HB; have HO_3 := n0_; have HO514 := n1_; have HO517 := n2_; have HB := n3_; clear n0_ n1_ n2_ n3_; (try clear hb); (try clear hb2); (try clear hk); (try clear hi); (try clear ho0); (try clear ho1); have p10 : 0 ≤ (x4_1 : Int) := ofD; have q10 : (x4_1 : Int) < ((x3_1.length : Int) : Int) := ofD; obtain ⟨go10, co10, eo10, gb10, gl10, cl10, HG10⟩ := Kd.S_form HO_3.out (by omega); (first | cases eo10 | (injection eo10 with ea_ en_ ec_; (first | subst ea_ | (injection ea_ with ea_; subst ea_)); subst ec_; clear en_)); have GB10 := Aside0.mk gb10; have GG10 := Aside0.mk HG10; clear gb10 gl10 HG10; obtain ⟨_, ce10, hcl10, hM10, hcc10, hfr10, _, _⟩ := Kd.S_elem HO_3.out z149 (x4_1 : Int) p10 q10; obtain ⟨ve10_1, ve10_2, rfl, ge10_1, ge10_2⟩ := k149_openM hM10; have hx10_0 : w11.cell? ⟨go10, (x4_1 : Int).toNat * 3, none⟩ = some (.int .i64 ((rd_T149 x3_1 x4_1).f0)) := hcc10 0 _ rfl; have hx10_1 : w11.cell? ⟨go10, (x4_1 : Int).toNat * 3 + 1, none⟩ = some (ve10_1) := hcc10 1 _ rfl; have hx10_2 : w11.cell? ⟨go10, (x4_1 : Int).toNat * 3 + 2, none⟩ = some (ve10_2) := hcc10 2 _ rfl; have hf10_0 : w11.frozen? ⟨go10, (x4_1 : Int).toNat * 3, none⟩ = false := hfr10 0; have hf10_1 : w11.frozen? ⟨go10, (x4_1 : Int).toNat * 3 + 1, none⟩ = false := hfr10 1; have hf10_2 : w11.frozen? ⟨go10, (x4_1 : Int).toNat * 3 + 2, none⟩ = false := hfr10 2; clear hcl10 hcc10 hfr10; (try clear hM10); replace p10 := eq_true p10; replace q10 := eq_true q10; have n_ := Aside0.mk (Kd.S_mono (ok' := (fun k_ => some k_ ≠ (v513 : Value).ownBlock ∧ some k_ ≠ (v516 : Value).ownBlock)) HO_3.out (fun k_ hk => ⟨hk.1.2, hk.2⟩)); clear HO_3; have HO_3 := n_; clear n_; have HX12 := Aside0.mk (show Kd.S k149 149 w11 w.heap.size (fun k_ => ((fun _ => True)) k_ ∧ ¬ ((fun k_ => some k_ = (v513 : Value).ownBlock ∨ some k_ = (v516 : Value).ownBlock)) k_) (.slice (some ⟨go10, 0, none⟩) x3_1.length co10) x3_1 from (by (with_reducible repeat (first | apply Kd.S_alloc | apply Kd.S_drewN | apply Kd.S_drew)); exact Kd.S_mono HO_3.out (fun k_ hk => ⟨trivial, fun e_ => e_.elim (fun h_ => hk.1 h_) (fun h_ => hk.2 h_)⟩))); obtain ⟨oki12, ce12, hcl12, hM12, hcc12, hfr12, hoki12, hH12⟩ := Kd.S_elem HX12.out z149 (x4_1 : Int) (ofD) (by have h_ : (x4_1 : Int) < ((x3_1.length : Int) : Int) := ofD; first | exact h_ | (have e_ := (Kd.S_reads' HO_3.out).1; omega) | simpa using h_); obtain ⟨ve12_1, ve12_2, rfl, ge12_1, ge12_2⟩ := k149_openM hM12; have HP12 := Kd.S_seg hH12 (ofD) (by have h_ : (x4_1 : Int) < ((x3_1.length : Int) : Int) := ofD; first | exact h_ | (have e_ := (Kd.S_reads' HO_3.out).1; omega) | simpa using h_) (seg := [.int .i64 t511, v513, v516]) (j := 0) (show 3 ≤ 3 from by decide) (x' := (⟨t511, t512, t515⟩ : S149)) (k149_mkM _ _ _ (⟨t511, t512, t515⟩ : S149) (Kd.R_mono (Kd.R_tight rfl (Kd.R_mono (ok' := fun k_ => ((fun _ => True)) k_ ∧ k_ ≠ go10) (Kd.R_apart' (HO514.out) (Kd.S_typed HO_3.out) (by decide)) (fun k_ hk => ⟨trivial, fun e_ => (hk.2) (by rw [e_]; rfl)⟩))) (fun _ h_ => Or.inr (Or.inl h_))) (Kd.R_mono (Kd.R_tight rfl (Kd.R_mono (ok' := fun k_ => ((fun _ => True)) k_ ∧ k_ ≠ go10) (Kd.R_apart' (HO517.out) (Kd.S_typed HO_3.out) (by decide)) (fun k_ hk => ⟨trivial, fun e_ => (hk.2) (by rw [e_]; rfl)⟩))) (fun _ h_ => Or.inr (Or.inr (h_))))) (fun _ hk => hk) (fun k_ hk_ => hk_.elim (fun h_ => ((Kd.R_mono (ok' := fun k_ => ((fun _ => True)) k_ ∧ k_ ≠ go10) (Kd.R_apart' (HO514.out) (Kd.S_typed HO_3.out) (by decide)) (fun k_ hk => ⟨trivial, fun e_ => (hk.2) (by rw [e_]; rfl)⟩))).1 k_ h_.symm) (fun h_ => ((Kd.R_mono (ok' := fun k_ => ((fun _ => True)) k_ ∧ k_ ≠ go10) (Kd.R_apart' (HO517.out) (Kd.S_typed HO_3.out) (by decide)) (fun k_ hk => ⟨trivial, fun e_ => (hk.2) (by rw [e_]; rfl)⟩))).1 k_ h_.symm)); have hx12_0 := hcc12 0 _ rfl; (try simp only [show (k149).sz = 3 from rfl, Nat.mul_one, Nat.add_zero] at hx12_0); have hf12_0 := hfr12 0; (try simp only [show (k149).sz = 3 from rfl, Nat.mul_one, Nat.add_zero] at hf12_0); have hx12_1 := hcc12 1 _ rfl; (try simp only [show (k149).sz = 3 from rfl, Nat.mul_one, Nat.add_zero] at hx12_1); have hf12_1 := hfr12 1; (try simp only [show (k149).sz = 3 from rfl, Nat.mul_one, Nat.add_zero] at hf12_1); have hx12_2 := hcc12 2 _ rfl; (try simp only [show (k149).sz = 3 from rfl, Nat.mul_one, Nat.add_zero] at hx12_2); have hf12_2 := hfr12 2; (try simp only [show (k149).sz = 3 from rfl, Nat.mul_one, Nat.add_zero] at hf12_2); clear hcl12 hcc12 hfr12; (try clear hM12); clear hoki12 hH12) | ((with_reducible refine gate_store (t := 149) (p := 21) rfl ?_); refine store_event (t := 149) (p := 21) (v := ?vo_w13) (w1 := (((w11.setCell ⟨go10, (x4_1 : Int).toNat * 3, none⟩ (.int .i64 t511)).setCell ⟨go10, (x4_1 : Int).toNat * 3 + 1, none⟩ (v513)).setCell ⟨go10, (x4_1 : Int).toNat * 3 + 2, none⟩ (v516))) ?hg ?ho ?hn ?hr ?_; (case ho => rfl); (case hg => rfl); (case hn => rfl); (case hr => first | (go_simp; done) | (go_simp; rfl) | (obtain ⟨Ay0_, cy0_, ey0_⟩ := Kd.R_slice (HO514.out); subst ey0_; obtain ⟨Ay1_, cy1_, ey1_⟩ := Kd.R_slice (HO517.out); subst ey1_; first | (go_simp; done) | (go_simp; rfl))); intro w13 hw; have hg : w11.grownBy w13 (some go10) := (by rw [hw]; exact HP12.2); have hp_ : Kd.S k149 149 w13 w.heap.size (fun _ => True) (.slice (some ⟨go10, 0, none⟩) x3_1.length co10) y518 := (by rw [hw, Ny518.out]; exact HP12.1); clear HP12; have n0_ := Aside0.mk (hp_); have n1_ := Aside0.mk ((by rw [hw]; exact below_set (below_set (below_set (HB.out) GB10.out) GB10.out) GB10.out : Below w.heap.size w w13)); clear HO_3; clear HB; clear HO514; clear HO517; have HO_3 := n0_; have HB := n1_; clear n0_ n1_; clear hg hw hp_))
        go_roundg k1
        case measure => have := HK1.out; omega
        case rel => exact ⟨(y518), (wrap64 (x4_1 + 1)), (eW), H', ⟨by have := HK1.out; omega⟩, ⟨(sP HO_3.out)⟩, ⟨bW⟩⟩
       ·rw [if_neg c9] at H
        exact absurd H (by simp)
      ·rw [if_neg c7] at H
       exact absurd H (by simp)
     ·rw [if_neg c6] at H
      have c6b0 : decide (x4_1 < (l0.length : Int)) = false := decide_eq_false c6
      clear c6
      obtain rfl := Option.some.inj H
      go_wp2
      go_ret
      exact ⟨_, eW, (sP HO_3.out), bW⟩
  ·rw [if_neg c3] at H
   exact absurd H (by simp)
 ·rw [if_neg c2] at H
  exact absurd H (by simp)

/-! ### laws_toAsynchronous: function 39 -/
def laws_toAsynchronous.f (k : Nat) (l0_0 : List Int) (l0_1 : List Int) (l0_2 : List Int) (l0_3 : List (S147)) (l0_4 : List (List Int)) : Option (List Int × List Int × List Int × (List (S149)) × (List (List Int))) := (laws_toInt64S.f k l0_0).bind fun t522 => ((laws_toInt64S.f k l0_1).bind fun t525 => ((laws_toInt64S.f k l0_2).bind fun t528 => ((laws_toJointS.f k l0_3).bind fun t531 => ((laws_toInt64SS.f k l0_4).bind fun t534 => (some (t522, t525, t528, t531, t534))))))
theorem laws_toAsynchronous.mono : ∀ a0 a1 a2 a3 a4 k, LeO (laws_toAsynchronous.f k a0 a1 a2 a3 a4) (laws_toAsynchronous.f (k + 1) a0 a1 a2 a3 a4) := by
 intro a0 a1 a2 a3 a4 k
 unfold laws_toAsynchronous.f
 repeat' first
   | (with_reducible exact laws_toInt64S.mono _ _)
   | (with_reducible exact laws_toInt64SS.mono _ _)
   | (with_reducible exact laws_toJointS.mono _ _)
   | (with_reducible exact LeO.refl _)
   | (with_reducible exact LeO.none _)
   | (with_reducible refine LeO.ite ?_ ?_)
   | (with_reducible refine LeO.bind ?_ (fun _ => ?_))
   | exact laws_toInt64S.mono _ _
   | exact laws_toInt64SS.mono _ _
   | exact laws_toJointS.mono _ _
   | exact LeO.none _
   | refine LeO.ite ?_ ?_
   | refine LeO.bind ?_ (fun _ => ?_)
set_option maxHeartbeats 8000000 in
set_option maxRecDepth 100000 in
theorem laws_toAsynchronous.calls (k : Nat) (A0_0 : Option Addr) (c0_0 : Nat) (l0_0 : List Int) (A0_1 : Option Addr) (c0_1 : Nat) (l0_1 : List Int) (A0_2 : Option Addr) (c0_2 : Nat) (l0_2 : List Int) (A0_3 : Option Addr) (c0_3 : Nat) (l0_3 : List (S147)) (A0_4 : Option Addr) (c0_4 : Nat) (l0_4 : List (List Int)) (r1 : List Int) (r2 : List Int) (r3 : List Int) (r4 : List (S149)) (r5 : List (List Int)) (w : World) (hr0_0 : Kd.C (Kd.int .i64) w A0_0 l0_0.length l0_0) (hc0_0 : l0_0.length ≤ c0_0) (hr0_1 : Kd.C (Kd.int .i64) w A0_1 l0_1.length l0_1) (hc0_1 : l0_1.length ≤ c0_1) (hr0_2 : Kd.C (Kd.int .i64) w A0_2 l0_2.length l0_2) (hc0_2 : l0_2.length ≤ c0_2) (hr0_3 : Kd.C k147 w A0_3 l0_3.length l0_3) (hc0_3 : l0_3.length ≤ c0_3) (hr0_4 : Kd.C (Kd.slice 2 (Kd.int .i64)) w A0_4 l0_4.length l0_4) (hc0_4 : l0_4.length ≤ c0_4) (h : laws_toAsynchronous.f k l0_0 l0_1 l0_2 l0_3 l0_4 = some (r1, r2, r3, r4, r5)) :
  Calls Tryd.prog 39 #[.agg #[.slice A0_0 l0_0.length c0_0, .slice A0_1 l0_1.length c0_1, .slice A0_2 l0_2.length c0_2, .slice A0_3 l0_3.length c0_3, .slice A0_4 l0_4.length c0_4]] w fun e w' => ∃ v0_ v1_ v2_ v3_ v4_ : Value, e = .returned (.agg #[v0_, v1_, v2_, v3_, v4_]) ∧ Kd.R (Kd.int .i64) 2 w' w.heap.size (fun k_ => some k_ ≠ (v1_ : Value).ownBlock ∧ some k_ ≠ (v2_ : Value).ownBlock) v0_ r1 ∧ Kd.R (Kd.int .i64) 2 w' w.heap.size (fun k_ => some k_ ≠ (v0_ : Value).ownBlock ∧ some k_ ≠ (v2_ : Value).ownBlock) v1_ r2 ∧ Kd.R (Kd.int .i64) 2 w' w.heap.size (fun k_ => some k_ ≠ (v0_ : Value).ownBlock ∧ some k_ ≠ (v1_ : Value).ownBlock) v2_ r3 ∧ Kd.S k149 149 w' w.heap.size (fun k_ => some k_ ≠ (v0_ : Value).ownBlock ∧ some k_ ≠ (v1_ : Value).ownBlock ∧ some k_ ≠ (v2_ : Value).ownBlock) v3_ r4 ∧ Kd.S (Kd.slice 2 (Kd.int .i64)) 22 w' w.heap.size (fun k_ => some k_ ≠ (v0_ : Value).ownBlock ∧ some k_ ≠ (v1_ : Value).ownBlock ∧ some k_ ≠ (v2_ : Value).ownBlock) v4_ r5 ∧ Below w.heap.size w w' := by
 have hu60 := Tryd.underlying60
 have hu65 := Tryd.underlying65
 have HR0_0 := Aside0.mk hr0_0
 have HC0_0 := Aside0.mk hc0_0
 clear hr0_0 hc0_0
 have HR0_1 := Aside0.mk hr0_1
 have HC0_1 := Aside0.mk hc0_1
 clear hr0_1 hc0_1
 have HR0_2 := Aside0.mk hr0_2
 have HC0_2 := Aside0.mk hc0_2
 clear hr0_2 hc0_2
 have HR0_3 := Aside0.mk hr0_3
 have HC0_3 := Aside0.mk hc0_3
 clear hr0_3 hc0_3
 have HR0_4 := Aside0.mk hr0_4
 have HC0_4 := Aside0.mk hc0_4
 clear hr0_4 hc0_4
 have HB := Aside0.mk (Below.refl w.heap.size w)
 have H : ((laws_toInt64S.f k l0_0).bind fun t522 => ((laws_toInt64S.f k l0_1).bind fun t525 => ((laws_toInt64S.f k l0_2).bind fun t528 => ((laws_toJointS.f k l0_3).bind fun t531 => ((laws_toInt64SS.f k l0_4).bind fun t534 => (some (t522, t525, t528, t531, t534))))))) = some (r1, r2, r3, r4, r5) := h
 clear h
 replace H := Option.bind_eq_some_iff.mp H
 obtain ⟨t522, A20, H⟩ := H
 replace H : ((laws_toInt64S.f k l0_1).bind fun t525 => ((laws_toInt64S.f k l0_2).bind fun t528 => ((laws_toJointS.f k l0_3).bind fun t531 => ((laws_toInt64SS.f k l0_4).bind fun t534 => (some (t522, t525, t528, t531, t534)))))) = some (r1, r2, r3, r4, r5) := H
 have A2 := Aside0.mk A20
 clear A20
 replace H := Option.bind_eq_some_iff.mp H
 obtain ⟨t525, A30, H⟩ := H
 replace H : ((laws_toInt64S.f k l0_2).bind fun t528 => ((laws_toJointS.f k l0_3).bind fun t531 => ((laws_toInt64SS.f k l0_4).bind fun t534 => (some (t522, t525, t528, t531, t534))))) = some (r1, r2, r3, r4, r5) := H
 have A3 := Aside0.mk A30
 clear A30
 replace H := Option.bind_eq_some_iff.mp H
 obtain ⟨t528, A40, H⟩ := H
 replace H : ((laws_toJointS.f k l0_3).bind fun t531 => ((laws_toInt64SS.f k l0_4).bind fun t534 => (some (t522, t525, t528, t531, t534)))) = some (r1, r2, r3, r4, r5) := H
 have A4 := Aside0.mk A40
 clear A40
 replace H := Option.bind_eq_some_iff.mp H
 obtain ⟨t531, A50, H⟩ := H
 replace H : ((laws_toInt64SS.f k l0_4).bind fun t534 => (some (t522, t525, t528, t531, t534))) = some (r1, r2, r3, r4, r5) := H
 have A5 := Aside0.mk A50
 clear A50
 replace H := Option.bind_eq_some_iff.mp H
 obtain ⟨t534, A60, H⟩ := H
 replace H : (some (t522, t525, t528, t531, t534)) = some (r1, r2, r3, r4, r5) := H
 have A6 := Aside0.mk A60
 clear A60
 simp only [Option.some.injEq, Prod.mk.injEq] at H
 obtain ⟨rfl, rfl, rfl, rfl, rfl⟩ := H
 go_enter Tryd.func39, Tryd.ntmps39
 go_wp2_with (first | ((with_reducible refine gate_dst (N := 1) rfl ?_); refine boxS (N := 1) (cs := #[.slice A0_0 l0_0.length c0_0, .slice A0_1 l0_1.length c0_1, .slice A0_2 l0_2.length c0_2, .slice A0_3 l0_3.length c0_3, .slice A0_4 l0_4.length c0_4]) (t := 60) ?_; intro gb519 hg w7 hbox hb; have n0_ := Aside0.mk (below_step (bW) hb); have n1_ := Aside0.mk (hbox); have n2_ := geW (w := w) hg; have n3_ := geW (w := w) hg; clear HB; have HB := n0_; have BK519 := n1_; have GW519 := n2_; have GE519 := n3_; clear n0_ n1_ n2_ n3_; clear hb hbox hg) | ((with_reducible refine gate_dst (N := 2) rfl ?_); refine boxS (N := 2) (cs := #[.slice none 0 0, .slice none 0 0, .slice none 0 0, .slice none 0 0, .slice none 0 0]) (t := 65) ?_; intro gb520 hg w8 hbox hb; have n0_ := Aside0.mk (blkB BK519.out hb); have n1_ := Aside0.mk (below_step (bW) hb); have n2_ := Aside0.mk (hbox); have n3_ := geW (w := w) hg; have n4_ := geW (w := w) hg; have n5_ := Aside0.mk ((by rw [hg]; exact Nat.ne_of_lt (blk_lt (g := gb519) (o := .cells #[.slice A0_0 l0_0.length c0_0, .slice A0_1 l0_1.length c0_1, .slice A0_2 l0_2.length c0_2, .slice A0_3 l0_3.length c0_3, .slice A0_4 l0_4.length c0_4] 60 (0, 0)) (bP BK519.out)) : gb519 ≠ gb520)); have n6_ := Aside0.mk ((by rw [hg]; exact Nat.ne_of_gt (blk_lt (g := gb519) (o := .cells #[.slice A0_0 l0_0.length c0_0, .slice A0_1 l0_1.length c0_1, .slice A0_2 l0_2.length c0_2, .slice A0_3 l0_3.length c0_3, .slice A0_4 l0_4.length c0_4] 60 (0, 0)) (bP BK519.out)) : gb520 ≠ gb519)); clear BK519; clear HB; have BK519 := n0_; have HB := n1_; have BK520 := n2_; have GW520 := n3_; have GE520 := n4_; have NB519_520 := n5_; have NB520_519 := n6_; clear n0_ n1_ n2_ n3_ n4_ n5_ n6_; clear hb hbox hg) | ((with_reducible refine gate_dst (N := 3) rfl ?_); refine boxS (N := 3) (cs := #[.slice none 0 0, .slice none 0 0, .slice none 0 0, .slice none 0 0, .slice none 0 0]) (t := 65) ?_; intro gb521 hg w9 hbox hb; have n0_ := Aside0.mk (blkB BK519.out hb); have n1_ := Aside0.mk (blkB BK520.out hb); have n2_ := Aside0.mk (below_step (bW) hb); have n3_ := Aside0.mk (hbox); have n4_ := geW (w := w) hg; have n5_ := geW (w := w) hg; have n6_ := Aside0.mk ((by rw [hg]; exact Nat.ne_of_lt (blk_lt (g := gb519) (o := .cells #[.slice A0_0 l0_0.length c0_0, .slice A0_1 l0_1.length c0_1, .slice A0_2 l0_2.length c0_2, .slice A0_3 l0_3.length c0_3, .slice A0_4 l0_4.length c0_4] 60 (0, 0)) (bP BK519.out)) : gb519 ≠ gb521)); have n7_ := Aside0.mk ((by rw [hg]; exact Nat.ne_of_gt (blk_lt (g := gb519) (o := .cells #[.slice A0_0 l0_0.length c0_0, .slice A0_1 l0_1.length c0_1, .slice A0_2 l0_2.length c0_2, .slice A0_3 l0_3.length c0_3, .slice A0_4 l0_4.length c0_4] 60 (0, 0)) (bP BK519.out)) : gb521 ≠ gb519)); have n8_ := Aside0.mk ((by rw [hg]; exact Nat.ne_of_lt (blk_lt (g := gb520) (o := .cells #[.slice none 0 0, .slice none 0 0, .slice none 0 0, .slice none 0 0, .slice none 0 0] 65 (0, 0)) (bP BK520.out)) : gb520 ≠ gb521)); have n9_ := Aside0.mk ((by rw [hg]; exact Nat.ne_of_gt (blk_lt (g := gb520) (o := .cells #[.slice none 0 0, .slice none 0 0, .slice none 0 0, .slice none 0 0, .slice none 0 0] 65 (0, 0)) (bP BK520.out)) : gb521 ≠ gb520)); clear BK519; clear BK520; clear HB; have BK519 := n0_; have BK520 := n1_; have HB := n2_; have BK521 := n3_; have GW521 := n4_; have GE521 := n5_; have NB519_521 := n6_; have NB521_519 := n7_; have NB520_521 := n8_; have NB521_520 := n9_; clear n0_ n1_ n2_ n3_ n4_ n5_ n6_ n7_ n8_ n9_; clear hb hbox hg; have hnb10 := NB519_520.out; have hnc10 := NB520_519.out; have hnb11 := NB519_521.out; have hnc11 := NB521_519.out; have hcz12_0 : w9.cell? ⟨gb519, 0, none⟩ = some (.slice A0_0 l0_0.length c0_0) := (blk_cell BK519.out 0).trans rfl; have hcz12_1 : w9.cell? ⟨gb519, 1, none⟩ = some (.slice A0_1 l0_1.length c0_1) := (blk_cell BK519.out 1).trans rfl; have hcz12_2 : w9.cell? ⟨gb519, 2, none⟩ = some (.slice A0_2 l0_2.length c0_2) := (blk_cell BK519.out 2).trans rfl; have hcz12_3 : w9.cell? ⟨gb519, 3, none⟩ = some (.slice A0_3 l0_3.length c0_3) := (blk_cell BK519.out 3).trans rfl; have hcz12_4 : w9.cell? ⟨gb519, 4, none⟩ = some (.slice A0_4 l0_4.length c0_4) := (blk_cell BK519.out 4).trans rfl; have hfz12_0 := blk_frozen BK519.out 0; have hfz12_1 := blk_frozen BK519.out 1; have hfz12_2 := blk_frozen BK519.out 2; have hfz12_3 := blk_frozen BK519.out 3; have hfz12_4 := blk_frozen BK519.out 4) | ((with_reducible refine gate_callee (f := 47) rfl ?_); refine goesS (some 6) Tryd.func47 #[.slice A0_0 l0_0.length c0_0] ?_; (with_reducible refine (laws_toInt64S.calls k _ _ l0_0 t522 _ ?side1 ?side2 A2.out).mono ?_); (case side1 => exact cP (Kd.C_below HR0_0.out HB.out)); (case side2 => exact HC0_0.out); rintro e w13 ⟨v523, rfl, ho0, hb⟩; refine ⟨_, rfl, ?_⟩; have n0_ := Aside0.mk (Kd.R_lower ho0 (below_size (bW))); have n1_ := Aside0.mk (blkB BK519.out hb); have n2_ := Aside0.mk (blkB BK520.out hb); have n3_ := Aside0.mk (blkB BK521.out hb); have n4_ := Aside0.mk (below_step (bW) hb); clear BK519; clear BK520; clear BK521; clear HB; have HO524 := n0_; have BK519 := n1_; have BK520 := n2_; have BK521 := n3_; have HB := n4_; clear n0_ n1_ n2_ n3_ n4_; (try clear hb); (try clear hb2); (try clear hk); (try clear hi); (try clear ho0); obtain ⟨Ao14, co14, eo14⟩ := Kd.R_slice HO524.out; subst eo14; have hnb15 := NB521_520.out; have hnc15 := NB520_521.out; have hcz16_0 : w13.cell? ⟨gb521, 0, none⟩ = some (.slice none 0 0) := (blk_cell BK521.out 0).trans rfl; have hcz16_1 : w13.cell? ⟨gb521, 1, none⟩ = some (.slice none 0 0) := (blk_cell BK521.out 1).trans rfl; have hcz16_2 : w13.cell? ⟨gb521, 2, none⟩ = some (.slice none 0 0) := (blk_cell BK521.out 2).trans rfl; have hcz16_3 : w13.cell? ⟨gb521, 3, none⟩ = some (.slice none 0 0) := (blk_cell BK521.out 3).trans rfl; have hcz16_4 : w13.cell? ⟨gb521, 4, none⟩ = some (.slice none 0 0) := (blk_cell BK521.out 4).trans rfl; have hfz16_0 := blk_frozen BK521.out 0; have hfz16_1 := blk_frozen BK521.out 1; have hfz16_2 := blk_frozen BK521.out 2; have hfz16_3 := blk_frozen BK521.out 3; have hfz16_4 := blk_frozen BK521.out 4; have hcz17_0 : w13.cell? ⟨gb519, 0, none⟩ = some (.slice A0_0 l0_0.length c0_0) := (blk_cell BK519.out 0).trans rfl; have hcz17_1 : w13.cell? ⟨gb519, 1, none⟩ = some (.slice A0_1 l0_1.length c0_1) := (blk_cell BK519.out 1).trans rfl; have hcz17_2 : w13.cell? ⟨gb519, 2, none⟩ = some (.slice A0_2 l0_2.length c0_2) := (blk_cell BK519.out 2).trans rfl; have hcz17_3 : w13.cell? ⟨gb519, 3, none⟩ = some (.slice A0_3 l0_3.length c0_3) := (blk_cell BK519.out 3).trans rfl; have hcz17_4 : w13.cell? ⟨gb519, 4, none⟩ = some (.slice A0_4 l0_4.length c0_4) := (blk_cell BK519.out 4).trans rfl; have hfz17_0 := blk_frozen BK519.out 0; have hfz17_1 := blk_frozen BK519.out 1; have hfz17_2 := blk_frozen BK519.out 2; have hfz17_3 := blk_frozen BK519.out 3; have hfz17_4 := blk_frozen BK519.out 4) | ((with_reducible refine gate_callee (f := 47) rfl ?_); refine goesS (some 10) Tryd.func47 #[.slice A0_1 l0_1.length c0_1] ?_; (with_reducible refine (laws_toInt64S.calls k _ _ l0_1 t525 _ ?side1 ?side2 A3.out).mono ?_); (case side1 => exact Kd.C_below HR0_1.out (bW)); (case side2 => exact HC0_1.out); rintro e w18 ⟨v526, rfl, ho0, hb⟩; refine ⟨_, rfl, ?_⟩; have n0_ := Aside0.mk (Kd.R_elder' (by (with_reducible repeat (first | apply Kd.R_alloc | apply Kd.R_drewN | apply Kd.R_drew)); exact (Kd.R_mono (Kd.R_far (p := ⟨gb521, 0, none⟩) (Kd.R_types HO524.out BK521.out (by decide)) (fun _ hk => hk.2) (.slice Ao14 t522.length co14)) (fun _ h_ => h_.1))) (Kd.R_base ho0) hb); have n1_ := Aside0.mk (Kd.R_lower (Kd.R_new' ho0 (Kd.R_lt (by (with_reducible repeat (first | apply Kd.R_alloc | apply Kd.R_drewN | apply Kd.R_drew)); exact (Kd.R_mono (Kd.R_far (p := ⟨gb521, 0, none⟩) (Kd.R_types HO524.out BK521.out (by decide)) (fun _ hk => hk.2) (.slice Ao14 t522.length co14)) (fun _ h_ => h_.1))))) (below_size (bW))); have n2_ := Aside0.mk (blk_below (g := gb519) (o := .cells #[.slice A0_0 l0_0.length c0_0, .slice A0_1 l0_1.length c0_1, .slice A0_2 l0_2.length c0_2, .slice A0_3 l0_3.length c0_3, .slice A0_4 l0_4.length c0_4] 60 (0, 0)) (by (with_reducible repeat (first | refine blk_drewN ?_ _ | refine blk_drew ?_ | refine blk_alloc ?_ _)); refine blk_far ?_ NB519_521.out _; exact bP BK519.out) hb); have n3_ := Aside0.mk (blk_below (g := gb520) (o := .cells #[.slice none 0 0, .slice none 0 0, .slice none 0 0, .slice none 0 0, .slice none 0 0] 65 (0, 0)) (by (with_reducible repeat (first | refine blk_drewN ?_ _ | refine blk_drew ?_ | refine blk_alloc ?_ _)); refine blk_far ?_ NB520_521.out _; exact bP BK520.out) hb); have n4_ := Aside0.mk (blk_below (g := gb521) (o := .cells #[.slice Ao14 t522.length co14, .slice none 0 0, .slice none 0 0, .slice none 0 0, .slice none 0 0] 65 (0, 0)) (by (with_reducible repeat (first | refine blk_drewN ?_ _ | refine blk_drew ?_ | refine blk_alloc ?_ _)); refine blk_put (cs := #[.slice none 0 0, .slice none 0 0, .slice none 0 0, .slice none 0 0, .slice none 0 0]) ?_ 0 _ rfl; exact bP BK521.out) hb); have n5_ := Aside0.mk (below_step (bW) hb); clear HO524; clear BK519; clear BK520; clear BK521; clear HB; have HO524 := n0_; have HO527 := n1_; have BK519 := n2_; have BK520 := n3_; have BK521 := n4_; have HB := n5_; clear n0_ n1_ n2_ n3_ n4_ n5_; (try clear hb); (try clear hb2); (try clear hk); (try clear hi); (try clear ho0); obtain ⟨Ao19, co19, eo19⟩ := Kd.R_slice HO527.out; subst eo19; have hcz20_0 : w18.cell? ⟨gb521, 0, none⟩ = some (.slice Ao14 t522.length co14) := (blk_cell BK521.out 0).trans rfl; have hcz20_1 : w18.cell? ⟨gb521, 1, none⟩ = some (.slice none 0 0) := (blk_cell BK521.out 1).trans rfl; have hcz20_2 : w18.cell? ⟨gb521, 2, none⟩ = some (.slice none 0 0) := (blk_cell BK521.out 2).trans rfl; have hcz20_3 : w18.cell? ⟨gb521, 3, none⟩ = some (.slice none 0 0) := (blk_cell BK521.out 3).trans rfl; have hcz20_4 : w18.cell? ⟨gb521, 4, none⟩ = some (.slice none 0 0) := (blk_cell BK521.out 4).trans rfl; have hfz20_0 := blk_frozen BK521.out 0; have hfz20_1 := blk_frozen BK521.out 1; have hfz20_2 := blk_frozen BK521.out 2; have hfz20_3 := blk_frozen BK521.out 3; have hfz20_4 := blk_frozen BK521.out 4; have hcz21_0 : w18.cell? ⟨gb519, 0, none⟩ = some (.slice A0_0 l0_0.length c0_0) := (blk_cell BK519.out 0).trans rfl; have hcz21_1 : w18.cell? ⟨gb519, 1, none⟩ = some (.slice A0_1 l0_1.length c0_1) := (blk_cell BK519.out 1).trans rfl; have hcz21_2 : w18.cell? ⟨gb519, 2, none⟩ = some (.slice A0_2 l0_2.length c0_2) := (blk_cell BK519.out 2).trans rfl; have hcz21_3 : w18.cell? ⟨gb519, 3, none⟩ = some (.slice A0_3 l0_3.length c0_3) := (blk_cell BK519.out 3).trans rfl; have hcz21_4 : w18.cell? ⟨gb519, 4, none⟩ = some (.slice A0_4 l0_4.length c0_4) := (blk_cell BK519.out 4).trans rfl; have hfz21_0 := blk_frozen BK519.out 0; have hfz21_1 := blk_frozen BK519.out 1; have hfz21_2 := blk_frozen BK519.out 2; have hfz21_3 := blk_frozen BK519.out 3; have hfz21_4 := blk_frozen BK519.out 4) | ((with_reducible refine gate_callee (f := 47) rfl ?_); refine goesS (some 14) Tryd.func47 #[.slice A0_2 l0_2.length c0_2] ?_; (with_reducible refine (laws_toInt64S.calls k _ _ l0_2 t528 _ ?side1 ?side2 A4.out).mono ?_); (case side1 => exact Kd.C_below HR0_2.out (bW)); (case side2 => exact HC0_2.out); rintro e w22 ⟨v529, rfl, ho0, hb⟩; refine ⟨_, rfl, ?_⟩; have n0_ := Aside0.mk (Kd.R_elder' (by (with_reducible repeat (first | apply Kd.R_alloc | apply Kd.R_drewN | apply Kd.R_drew)); exact (Kd.R_mono (Kd.R_far (p := ⟨gb521, 1, none⟩) (Kd.R_types HO524.out BK521.out (by decide)) (fun _ hk => hk.2) (.slice Ao19 t525.length co19)) (fun _ h_ => h_.1))) (Kd.R_base ho0) hb); have n1_ := Aside0.mk (Kd.R_elder' (by (with_reducible repeat (first | apply Kd.R_alloc | apply Kd.R_drewN | apply Kd.R_drew)); exact (Kd.R_mono (Kd.R_far (p := ⟨gb521, 1, none⟩) (Kd.R_types HO527.out BK521.out (by decide)) (fun _ hk => hk.2) (.slice Ao19 t525.length co19)) (fun _ h_ => h_.1))) (Kd.R_base ho0) hb); have n2_ := Aside0.mk (Kd.R_lower (Kd.R_new' (Kd.R_new' ho0 (Kd.R_lt (by (with_reducible repeat (first | apply Kd.R_alloc | apply Kd.R_drewN | apply Kd.R_drew)); exact (Kd.R_mono (Kd.R_far (p := ⟨gb521, 1, none⟩) (Kd.R_types HO524.out BK521.out (by decide)) (fun _ hk => hk.2) (.slice Ao19 t525.length co19)) (fun _ h_ => h_.1))))) (Kd.R_lt (by (with_reducible repeat (first | apply Kd.R_alloc | apply Kd.R_drewN | apply Kd.R_drew)); exact (Kd.R_mono (Kd.R_far (p := ⟨gb521, 1, none⟩) (Kd.R_types HO527.out BK521.out (by decide)) (fun _ hk => hk.2) (.slice Ao19 t525.length co19)) (fun _ h_ => h_.1))))) (below_size (bW))); have n3_ := Aside0.mk (blk_below (g := gb519) (o := .cells #[.slice A0_0 l0_0.length c0_0, .slice A0_1 l0_1.length c0_1, .slice A0_2 l0_2.length c0_2, .slice A0_3 l0_3.length c0_3, .slice A0_4 l0_4.length c0_4] 60 (0, 0)) (by (with_reducible repeat (first | refine blk_drewN ?_ _ | refine blk_drew ?_ | refine blk_alloc ?_ _)); refine blk_far ?_ NB519_521.out _; exact bP BK519.out) hb); have n4_ := Aside0.mk (blk_below (g := gb520) (o := .cells #[.slice none 0 0, .slice none 0 0, .slice none 0 0, .slice none 0 0, .slice none 0 0] 65 (0, 0)) (by (with_reducible repeat (first | refine blk_drewN ?_ _ | refine blk_drew ?_ | refine blk_alloc ?_ _)); refine blk_far ?_ NB520_521.out _; exact bP BK520.out) hb); have n5_ := Aside0.mk (blk_below (g := gb521) (o := .cells #[.slice Ao14 t522.length co14, .slice Ao19 t525.length co19, .slice none 0 0, .slice none 0 0, .slice none 0 0] 65 (0, 0)) (by (with_reducible repeat (first | refine blk_drewN ?_ _ | refine blk_drew ?_ | refine blk_alloc ?_ _)); refine blk_put (cs := #[.slice Ao14 t522.length co14, .slice none 0 0, .slice none 0 0, .slice none 0 0, .slice none 0 0]) ?_ 1 _ rfl; exact bP BK521.out) hb); have n6_ := Aside0.mk (below_step (bW) hb); clear HO524; clear HO527; clear BK519; clear BK520; clear BK521; clear HB; have HO524 := n0_; have HO527 := n1_; have HO530 := n2_; have BK519 := n3_; have BK520 := n4_; have BK521 := n5_; have HB := n6_; clear n0_ n1_ n2_ n3_ n4_ n5_ n6_; (try clear hb); (try clear hb2); (try clear hk); (try clear hi); (try clear ho0); obtain ⟨Ao23, co23, eo23⟩ := Kd.R_slice HO530.out; subst eo23; have hcz24_0 : w22.cell? ⟨gb521, 0, none⟩ = some (.slice Ao14 t522.length co14) := (blk_cell BK521.out 0).trans rfl; have hcz24_1 : w22.cell? ⟨gb521, 1, none⟩ = some (.slice Ao19 t525.length co19) := (blk_cell BK521.out 1).trans rfl; have hcz24_2 : w22.cell? ⟨gb521, 2, none⟩ = some (.slice none 0 0) := (blk_cell BK521.out 2).trans rfl; have hcz24_3 : w22.cell? ⟨gb521, 3, none⟩ = some (.slice none 0 0) := (blk_cell BK521.out 3).trans rfl; have hcz24_4 : w22.cell? ⟨gb521, 4, none⟩ = some (.slice none 0 0) := (blk_cell BK521.out 4).trans rfl; have hfz24_0 := blk_frozen BK521.out 0; have hfz24_1 := blk_frozen BK521.out 1; have hfz24_2 := blk_frozen BK521.out 2; have hfz24_3 := blk_frozen BK521.out 3; have hfz24_4 := blk_frozen BK521.out 4; have hcz25_0 : w22.cell? ⟨gb519, 0, none⟩ = some (.slice A0_0 l0_0.length c0_0) := (blk_cell BK519.out 0).trans rfl; have hcz25_1 : w22.cell? ⟨gb519, 1, none⟩ = some (.slice A0_1 l0_1.length c0_1) := (blk_cell BK519.out 1).trans rfl; have hcz25_2 : w22.cell? ⟨gb519, 2, none⟩ = some (.slice A0_2 l0_2.length c0_2) := (blk_cell BK519.out 2).trans rfl; have hcz25_3 : w22.cell? ⟨gb519, 3, none⟩ = some (.slice A0_3 l0_3.length c0_3) := (blk_cell BK519.out 3).trans rfl; have hcz25_4 : w22.cell? ⟨gb519, 4, none⟩ = some (.slice A0_4 l0_4.length c0_4) := (blk_cell BK519.out 4).trans rfl; have hfz25_0 := blk_frozen BK519.out 0; have hfz25_1 := blk_frozen BK519.out 1; have hfz25_2 := blk_frozen BK519.out 2; have hfz25_3 := blk_frozen BK519.out 3; have hfz25_4 := blk_frozen BK519.out 4) | ((with_reducible refine gate_callee (f := 78) rfl ?_); refine goesS (some 18) Tryd.func78 #[.slice A0_3 l0_3.length c0_3] ?_; (with_reducible refine (laws_toJointS.calls k _ _ l0_3 t531 _ ?side1 ?side2 A5.out).mono ?_); (case side1 => exact Kd.C_below HR0_3.out (bW)); (case side2 => exact HC0_3.out); rintro e w26 ⟨v532, rfl, ho0, hb⟩; refine ⟨_, rfl, ?_⟩; have n0_ := Aside0.mk (Kd.R_below (by (with_reducible repeat (first | apply Kd.R_alloc | apply Kd.R_drewN | apply Kd.R_drew)); exact (Kd.R_mono (Kd.R_far (p := ⟨gb521, 2, none⟩) (Kd.R_types HO524.out BK521.out (by decide)) (fun _ hk => hk.2) (.slice Ao23 t528.length co23)) (fun _ h_ => h_.1))) hb); have n1_ := Aside0.mk (Kd.R_below (by (with_reducible repeat (first | apply Kd.R_alloc | apply Kd.R_drewN | apply Kd.R_drew)); exact (Kd.R_mono (Kd.R_far (p := ⟨gb521, 2, none⟩) (Kd.R_types HO527.out BK521.out (by decide)) (fun _ hk => hk.2) (.slice Ao23 t528.length co23)) (fun _ h_ => h_.1))) hb); have n2_ := Aside0.mk (Kd.R_below (by (with_reducible repeat (first | apply Kd.R_alloc | apply Kd.R_drewN | apply Kd.R_drew)); exact (Kd.R_mono (Kd.R_far (p := ⟨gb521, 2, none⟩) (Kd.R_types HO530.out BK521.out (by decide)) (fun _ hk => hk.2) (.slice Ao23 t528.length co23)) (fun _ h_ => h_.1))) hb); have n3_ := Aside0.mk (Kd.S_lower (Kd.S_new' (Kd.S_new' (Kd.S_new' ho0 (Kd.R_lt (by (with_reducible repeat (first | apply Kd.R_alloc | apply Kd.R_drewN | apply Kd.R_drew)); exact (Kd.R_mono (Kd.R_far (p := ⟨gb521, 2, none⟩) (Kd.R_types HO524.out BK521.out (by decide)) (fun _ hk => hk.2) (.slice Ao23 t528.length co23)) (fun _ h_ => h_.1))))) (Kd.R_lt (by (with_reducible repeat (first | apply Kd.R_alloc | apply Kd.R_drewN | apply Kd.R_drew)); exact (Kd.R_mono (Kd.R_far (p := ⟨gb521, 2, none⟩) (Kd.R_types HO527.out BK521.out (by decide)) (fun _ hk => hk.2) (.slice Ao23 t528.length co23)) (fun _ h_ => h_.1))))) (Kd.R_lt (by (with_reducible repeat (first | apply Kd.R_alloc | apply Kd.R_drewN | apply Kd.R_drew)); exact (Kd.R_mono (Kd.R_far (p := ⟨gb521, 2, none⟩) (Kd.R_types HO530.out BK521.out (by decide)) (fun _ hk => hk.2) (.slice Ao23 t528.length co23)) (fun _ h_ => h_.1))))) (below_size (bW))); have n4_ := Aside0.mk (blk_below (g := gb519) (o := .cells #[.slice A0_0 l0_0.length c0_0, .slice A0_1 l0_1.length c0_1, .slice A0_2 l0_2.length c0_2, .slice A0_3 l0_3.length c0_3, .slice A0_4 l0_4.length c0_4] 60 (0, 0)) (by (with_reducible repeat (first | refine blk_drewN ?_ _ | refine blk_drew ?_ | refine blk_alloc ?_ _)); refine blk_far ?_ NB519_521.out _; exact bP BK519.out) hb); have n5_ := Aside0.mk (blk_below (g := gb520) (o := .cells #[.slice none 0 0, .slice none 0 0, .slice none 0 0, .slice none 0 0, .slice none 0 0] 65 (0, 0)) (by (with_reducible repeat (first | refine blk_drewN ?_ _ | refine blk_drew ?_ | refine blk_alloc ?_ _)); refine blk_far ?_ NB520_521.out _; exact bP BK520.out) hb); have n6_ := Aside0.mk (blk_below (g := gb521) (o := .cells #[.slice Ao14 t522.length co14, .slice Ao19 t525.length co19, .slice Ao23 t528.length co23, .slice none 0 0, .slice none 0 0] 65 (0, 0)) (by (with_reducible repeat (first | refine blk_drewN ?_ _ | refine blk_drew ?_ | refine blk_alloc ?_ _)); refine blk_put (cs := #[.slice Ao14 t522.length co14, .slice Ao19 t525.length co19, .slice none 0 0, .slice none 0 0, .slice none 0 0]) ?_ 2 _ rfl; exact bP BK521.out) hb); have n7_ := Aside0.mk (below_step (bW) hb); clear HO524; clear HO527; clear HO530; clear BK519; clear BK520; clear BK521; clear HB; have HO524 := n0_; have HO527 := n1_; have HO530 := n2_; have HO533 := n3_; have BK519 := n4_; have BK520 := n5_; have BK521 := n6_; have HB := n7_; clear n0_ n1_ n2_ n3_ n4_ n5_ n6_ n7_; (try clear hb); (try clear hb2); (try clear hk); (try clear hi); (try clear ho0); obtain ⟨Ao27, co27, eo27⟩ := Kd.S_slice HO533.out; subst eo27; have hcz28_0 : w26.cell? ⟨gb521, 0, none⟩ = some (.slice Ao14 t522.length co14) := (blk_cell BK521.out 0).trans rfl; have hcz28_1 : w26.cell? ⟨gb521, 1, none⟩ = some (.slice Ao19 t525.length co19) := (blk_cell BK521.out 1).trans rfl; have hcz28_2 : w26.cell? ⟨gb521, 2, none⟩ = some (.slice Ao23 t528.length co23) := (blk_cell BK521.out 2).trans rfl; have hcz28_3 : w26.cell? ⟨gb521, 3, none⟩ = some (.slice none 0 0) := (blk_cell BK521.out 3).trans rfl; have hcz28_4 : w26.cell? ⟨gb521, 4, none⟩ = some (.slice none 0 0) := (blk_cell BK521.out 4).trans rfl; have hfz28_0 := blk_frozen BK521.out 0; have hfz28_1 := blk_frozen BK521.out 1; have hfz28_2 := blk_frozen BK521.out 2; have hfz28_3 := blk_frozen BK521.out 3; have hfz28_4 := blk_frozen BK521.out 4; have hcz29_0 : w26.cell? ⟨gb519, 0, none⟩ = some (.slice A0_0 l0_0.length c0_0) := (blk_cell BK519.out 0).trans rfl; have hcz29_1 : w26.cell? ⟨gb519, 1, none⟩ = some (.slice A0_1 l0_1.length c0_1) := (blk_cell BK519.out 1).trans rfl; have hcz29_2 : w26.cell? ⟨gb519, 2, none⟩ = some (.slice A0_2 l0_2.length c0_2) := (blk_cell BK519.out 2).trans rfl; have hcz29_3 : w26.cell? ⟨gb519, 3, none⟩ = some (.slice A0_3 l0_3.length c0_3) := (blk_cell BK519.out 3).trans rfl; have hcz29_4 : w26.cell? ⟨gb519, 4, none⟩ = some (.slice A0_4 l0_4.length c0_4) := (blk_cell BK519.out 4).trans rfl; have hfz29_0 := blk_frozen BK519.out 0; have hfz29_1 := blk_frozen BK519.out 1; have hfz29_2 := blk_frozen BK519.out 2; have hfz29_3 := blk_frozen BK519.out 3; have hfz29_4 := blk_frozen BK519.out 4) | ((with_reducible refine gate_callee (f := 16) rfl ?_); refine goesS (some 22) Tryd.func16 #[.slice A0_4 l0_4.length c0_4] ?_; (with_reducible refine (laws_toInt64SS.calls k _ _ l0_4 t534 _ ?side1 ?side2 A6.out).mono ?_); (case side1 => exact Kd.C_below HR0_4.out (bW)); (case side2 => exact HC0_4.out); rintro e w30 ⟨v535, rfl, ho0, hb⟩; refine ⟨_, rfl, ?_⟩; have n0_ := Aside0.mk (Kd.R_below (by (with_reducible repeat (first | apply Kd.R_alloc | apply Kd.R_drewN | apply Kd.R_drew)); exact (Kd.R_mono (Kd.R_far (p := ⟨gb521, 3, none⟩) (Kd.R_types HO524.out BK521.out (by decide)) (fun _ hk => hk.2) (.slice Ao27 t531.length co27)) (fun _ h_ => h_.1))) hb); have n1_ := Aside0.mk (Kd.R_below (by (with_reducible repeat (first | apply Kd.R_alloc | apply Kd.R_drewN | apply Kd.R_drew)); exact (Kd.R_mono (Kd.R_far (p := ⟨gb521, 3, none⟩) (Kd.R_types HO527.out BK521.out (by decide)) (fun _ hk => hk.2) (.slice Ao27 t531.length co27)) (fun _ h_ => h_.1))) hb); have n2_ := Aside0.mk (Kd.R_below (by (with_reducible repeat (first | apply Kd.R_alloc | apply Kd.R_drewN | apply Kd.R_drew)); exact (Kd.R_mono (Kd.R_far (p := ⟨gb521, 3, none⟩) (Kd.R_types HO530.out BK521.out (by decide)) (fun _ hk => hk.2) (.slice Ao27 t531.length co27)) (fun _ h_ => h_.1))) hb); have n3_ := Aside0.mk (Kd.S_below (by (with_reducible repeat (first | apply Kd.S_alloc | apply Kd.S_drewN | apply Kd.S_drew)); exact (Kd.S_mono (Kd.S_far (p := ⟨gb521, 3, none⟩) (Kd.S_types HO533.out BK521.out (by decide)) (fun _ hk => hk.2) (.slice Ao27 t531.length co27)) (fun _ h_ => h_.1))) hb); have n4_ := Aside0.mk (Kd.S_lower (Kd.S_new' (Kd.S_new' (Kd.S_new' ho0 (Kd.R_lt (by (with_reducible repeat (first | apply Kd.R_alloc | apply Kd.R_drewN | apply Kd.R_drew)); exact (Kd.R_mono (Kd.R_far (p := ⟨gb521, 3, none⟩) (Kd.R_types HO524.out BK521.out (by decide)) (fun _ hk => hk.2) (.slice Ao27 t531.length co27)) (fun _ h_ => h_.1))))) (Kd.R_lt (by (with_reducible repeat (first | apply Kd.R_alloc | apply Kd.R_drewN | apply Kd.R_drew)); exact (Kd.R_mono (Kd.R_far (p := ⟨gb521, 3, none⟩) (Kd.R_types HO527.out BK521.out (by decide)) (fun _ hk => hk.2) (.slice Ao27 t531.length co27)) (fun _ h_ => h_.1))))) (Kd.R_lt (by (with_reducible repeat (first | apply Kd.R_alloc | apply Kd.R_drewN | apply Kd.R_drew)); exact (Kd.R_mono (Kd.R_far (p := ⟨gb521, 3, none⟩) (Kd.R_types HO530.out BK521.out (by decide)) (fun _ hk => hk.2) (.slice Ao27 t531.length co27)) (fun _ h_ => h_.1))))) (below_size (bW))); have n5_ := Aside0.mk (blk_below (g := gb519) (o := .cells #[.slice A0_0 l0_0.length c0_0, .slice A0_1 l0_1.length c0_1, .slice A0_2 l0_2.length c0_2, .slice A0_3 l0_3.length c0_3, .slice A0_4 l0_4.length c0_4] 60 (0, 0)) (by (with_reducible repeat (first | refine blk_drewN ?_ _ | refine blk_drew ?_ | refine blk_alloc ?_ _)); refine blk_far ?_ NB519_521.out _; exact bP BK519.out) hb); have n6_ := Aside0.mk (blk_below (g := gb520) (o := .cells #[.slice none 0 0, .slice none 0 0, .slice none 0 0, .slice none 0 0, .slice none 0 0] 65 (0, 0)) (by (with_reducible repeat (first | refine blk_drewN ?_ _ | refine blk_drew ?_ | refine blk_alloc ?_ _)); refine blk_far ?_ NB520_521.out _; exact bP BK520.out) hb); have n7_ := Aside0.mk (blk_below (g := gb521) (o := .cells #[.slice Ao14 t522.length co14, .slice Ao19 t525.length co19, .slice Ao23 t528.length co23, .slice Ao27 t531.length co27, .slice none 0 0] 65 (0, 0)) (by (with_reducible repeat (first | refine blk_drewN ?_ _ | refine blk_drew ?_ | refine blk_alloc ?_ _)); refine blk_put (cs := #[.slice Ao14 t522.length co14, .slice Ao19 t525.length co19, .slice Ao23 t528.length co23, .slice none 0 0, .slice none 0 0]) ?_ 3 _ rfl; exact bP BK521.out) hb); have n8_ := Aside0.mk (below_step (bW) hb); clear HO524; clear HO527; clear HO530; clear HO533; clear BK519; clear BK520; clear BK521; clear HB; have HO524 := n0_; have HO527 := n1_; have HO530 := n2_; have HO533 := n3_; have HO536 := n4_; have BK519 := n5_; have BK520 := n6_; have BK521 := n7_; have HB := n8_; clear n0_ n1_ n2_ n3_ n4_ n5_ n6_ n7_ n8_; (try clear hb); (try clear hb2); (try clear hk); (try clear hi); (try clear ho0); obtain ⟨Ao31, co31, eo31⟩ := Kd.S_slice HO536.out; subst eo31; have hcz32_0 : w30.cell? ⟨gb521, 0, none⟩ = some (.slice Ao14 t522.length co14) := (blk_cell BK521.out 0).trans rfl; have hcz32_1 : w30.cell? ⟨gb521, 1, none⟩ = some (.slice Ao19 t525.length co19) := (blk_cell BK521.out 1).trans rfl; have hcz32_2 : w30.cell? ⟨gb521, 2, none⟩ = some (.slice Ao23 t528.length co23) := (blk_cell BK521.out 2).trans rfl; have hcz32_3 : w30.cell? ⟨gb521, 3, none⟩ = some (.slice Ao27 t531.length co27) := (blk_cell BK521.out 3).trans rfl; have hcz32_4 : w30.cell? ⟨gb521, 4, none⟩ = some (.slice none 0 0) := (blk_cell BK521.out 4).trans rfl; have hfz32_0 := blk_frozen BK521.out 0; have hfz32_1 := blk_frozen BK521.out 1; have hfz32_2 := blk_frozen BK521.out 2; have hfz32_3 := blk_frozen BK521.out 3; have hfz32_4 := blk_frozen BK521.out 4; have hcz33_0 : w30.cell? ⟨gb520, 0, none⟩ = some (.slice none 0 0) := (blk_cell BK520.out 0).trans rfl; have hcz33_1 : w30.cell? ⟨gb520, 1, none⟩ = some (.slice none 0 0) := (blk_cell BK520.out 1).trans rfl; have hcz33_2 : w30.cell? ⟨gb520, 2, none⟩ = some (.slice none 0 0) := (blk_cell BK520.out 2).trans rfl; have hcz33_3 : w30.cell? ⟨gb520, 3, none⟩ = some (.slice none 0 0) := (blk_cell BK520.out 3).trans rfl; have hcz33_4 : w30.cell? ⟨gb520, 4, none⟩ = some (.slice none 0 0) := (blk_cell BK520.out 4).trans rfl; have hfz33_0 := blk_frozen BK520.out 0; have hfz33_1 := blk_frozen BK520.out 1; have hfz33_2 := blk_frozen BK520.out 2; have hfz33_3 := blk_frozen BK520.out 3; have hfz33_4 := blk_frozen BK520.out 4))
 refine bodyPost_ret (results_cell_row rfl _ _ gb520 65 #[.slice Ao14 t522.length co14, .slice Ao19 t525.length co19, .slice Ao23 t528.length co23, .slice Ao27 t531.length co27, .slice Ao31 t534.length co31] (0, 0) _ rfl (by (with_reducible repeat (first | refine blk_drewN ?_ _ | refine blk_drew ?_ | refine blk_alloc ?_ _)); refine blk_put (cs := #[.slice Ao14 t522.length co14, .slice Ao19 t525.length co19, .slice Ao23 t528.length co23, .slice Ao27 t531.length co27, .slice none 0 0]) ?_ 4 _ rfl; (with_reducible repeat (first | refine blk_drewN ?_ _ | refine blk_drew ?_ | refine blk_alloc ?_ _)); refine blk_put (cs := #[.slice Ao14 t522.length co14, .slice Ao19 t525.length co19, .slice Ao23 t528.length co23, .slice none 0 0, .slice none 0 0]) ?_ 3 _ rfl; (with_reducible repeat (first | refine blk_drewN ?_ _ | refine blk_drew ?_ | refine blk_alloc ?_ _)); refine blk_put (cs := #[.slice Ao14 t522.length co14, .slice Ao19 t525.length co19, .slice none 0 0, .slice none 0 0, .slice none 0 0]) ?_ 2 _ rfl; (with_reducible repeat (first | refine blk_drewN ?_ _ | refine blk_drew ?_ | refine blk_alloc ?_ _)); refine blk_put (cs := #[.slice Ao14 t522.length co14, .slice none 0 0, .slice none 0 0, .slice none 0 0, .slice none 0 0]) ?_ 1 _ rfl; (with_reducible repeat (first | refine blk_drewN ?_ _ | refine blk_drew ?_ | refine blk_alloc ?_ _)); refine blk_put (cs := #[.slice none 0 0, .slice none 0 0, .slice none 0 0, .slice none 0 0, .slice none 0 0]) ?_ 0 _ rfl; (with_reducible repeat (first | refine blk_drewN ?_ _ | refine blk_drew ?_ | refine blk_alloc ?_ _)); refine blk_far ?_ NB520_521.out _; exact bP BK520.out) Tryd.underlying65 rfl (by kernel_rfl)) rfl ?_
 exact ⟨_, _, _, _, _, eW, by (with_reducible repeat (first | apply Kd.R_alloc | apply Kd.R_drewN | apply Kd.R_drew)); exact Kd.R_mono (Kd.R_far (p := ⟨gb520, 4, none⟩) (Kd.R_far (p := ⟨gb520, 3, none⟩) (Kd.R_far (p := ⟨gb520, 2, none⟩) (Kd.R_far (p := ⟨gb520, 1, none⟩) (Kd.R_far (p := ⟨gb520, 0, none⟩) (Kd.R_far (p := ⟨gb521, 4, none⟩) (Kd.R_types (Kd.R_types HO524.out BK521.out (by decide)) BK520.out (by decide)) (fun _ hk => hk.1.2) (.slice Ao31 t534.length co31)) (fun _ hk => hk.2) (.slice Ao14 t522.length co14)) (fun _ hk => hk.2) (.slice Ao19 t525.length co19)) (fun _ hk => hk.2) (.slice Ao23 t528.length co23)) (fun _ hk => hk.2) (.slice Ao27 t531.length co27)) (fun _ hk => hk.2) (.slice Ao31 t534.length co31)) (fun _ hk => ⟨hk.1.1.1.2, hk.1.1.2⟩), by (with_reducible repeat (first | apply Kd.R_alloc | apply Kd.R_drewN | apply Kd.R_drew)); exact Kd.R_mono (Kd.R_far (p := ⟨gb520, 4, none⟩) (Kd.R_far (p := ⟨gb520, 3, none⟩) (Kd.R_far (p := ⟨gb520, 2, none⟩) (Kd.R_far (p := ⟨gb520, 1, none⟩) (Kd.R_far (p := ⟨gb520, 0, none⟩) (Kd.R_far (p := ⟨gb521, 4, none⟩) (Kd.R_types (Kd.R_types HO527.out BK521.out (by decide)) BK520.out (by decide)) (fun _ hk => hk.1.2) (.slice Ao31 t534.length co31)) (fun _ hk => hk.2) (.slice Ao14 t522.length co14)) (fun _ hk => hk.2) (.slice Ao19 t525.length co19)) (fun _ hk => hk.2) (.slice Ao23 t528.length co23)) (fun _ hk => hk.2) (.slice Ao27 t531.length co27)) (fun _ hk => hk.2) (.slice Ao31 t534.length co31)) (fun _ hk => ⟨hk.1.1.1.2, hk.1.1.2⟩), by (with_reducible repeat (first | apply Kd.R_alloc | apply Kd.R_drewN | apply Kd.R_drew)); exact Kd.R_mono (Kd.R_far (p := ⟨gb520, 4, none⟩) (Kd.R_far (p := ⟨gb520, 3, none⟩) (Kd.R_far (p := ⟨gb520, 2, none⟩) (Kd.R_far (p := ⟨gb520, 1, none⟩) (Kd.R_far (p := ⟨gb520, 0, none⟩) (Kd.R_far (p := ⟨gb521, 4, none⟩) (Kd.R_types (Kd.R_types HO530.out BK521.out (by decide)) BK520.out (by decide)) (fun _ hk => hk.1.2) (.slice Ao31 t534.length co31)) (fun _ hk => hk.2) (.slice Ao14 t522.length co14)) (fun _ hk => hk.2) (.slice Ao19 t525.length co19)) (fun _ hk => hk.2) (.slice Ao23 t528.length co23)) (fun _ hk => hk.2) (.slice Ao27 t531.length co27)) (fun _ hk => hk.2) (.slice Ao31 t534.length co31)) (fun _ hk => ⟨hk.1.1.1.2, hk.1.1.2⟩), by (with_reducible repeat (first | apply Kd.S_alloc | apply Kd.S_drewN | apply Kd.S_drew)); exact Kd.S_mono (Kd.S_far (p := ⟨gb520, 4, none⟩) (Kd.S_far (p := ⟨gb520, 3, none⟩) (Kd.S_far (p := ⟨gb520, 2, none⟩) (Kd.S_far (p := ⟨gb520, 1, none⟩) (Kd.S_far (p := ⟨gb520, 0, none⟩) (Kd.S_far (p := ⟨gb521, 4, none⟩) (Kd.S_types (Kd.S_types HO533.out BK521.out (by decide)) BK520.out (by decide)) (fun _ hk => hk.1.2) (.slice Ao31 t534.length co31)) (fun _ hk => hk.2) (.slice Ao14 t522.length co14)) (fun _ hk => hk.2) (.slice Ao19 t525.length co19)) (fun _ hk => hk.2) (.slice Ao23 t528.length co23)) (fun _ hk => hk.2) (.slice Ao27 t531.length co27)) (fun _ hk => hk.2) (.slice Ao31 t534.length co31)) (fun _ hk => ⟨hk.1.1.1.1.2, ⟨hk.1.1.1.2, hk.1.1.2⟩⟩), by (with_reducible repeat (first | apply Kd.S_alloc | apply Kd.S_drewN | apply Kd.S_drew)); exact Kd.S_mono (Kd.S_far (p := ⟨gb520, 4, none⟩) (Kd.S_far (p := ⟨gb520, 3, none⟩) (Kd.S_far (p := ⟨gb520, 2, none⟩) (Kd.S_far (p := ⟨gb520, 1, none⟩) (Kd.S_far (p := ⟨gb520, 0, none⟩) (Kd.S_far (p := ⟨gb521, 4, none⟩) (Kd.S_types (Kd.S_types HO536.out BK521.out (by decide)) BK520.out (by decide)) (fun _ hk => hk.1.2) (.slice Ao31 t534.length co31)) (fun _ hk => hk.2) (.slice Ao14 t522.length co14)) (fun _ hk => hk.2) (.slice Ao19 t525.length co19)) (fun _ hk => hk.2) (.slice Ao23 t528.length co23)) (fun _ hk => hk.2) (.slice Ao27 t531.length co27)) (fun _ hk => hk.2) (.slice Ao31 t534.length co31)) (fun _ hk => ⟨hk.1.1.1.1.2, ⟨hk.1.1.1.2, hk.1.1.2⟩⟩), bW⟩

/-! ### impl_arePlaces: function 79 -/
def impl_arePlaces.f (a0 : Int) (l1 : List Int) : Option (Bool) := (impl_inRange.f a0 1 4).bind fun t537 => (if t537 = true then (if (l1.length : Int) ≤ 8 then ((impl_one.f a0).bind fun t538 => ((impl_allIn.f l1 1 (wrap64 (t538 - 1))).bind fun t539 => (some t539))) else (some false)) else (some false))
set_option maxHeartbeats 8000000 in
set_option maxRecDepth 100000 in
theorem impl_arePlaces.calls (a0 : Int) (A1 : Option Addr) (c1 : Nat) (l1 : List Int) (r : Bool) (w : World) (hr1 : Kd.C (Kd.int .i64) w A1 l1.length l1) (hc1 : l1.length ≤ c1) (h : impl_arePlaces.f a0 l1 = some r) :
  Calls Tryd.prog 79 #[.int .i64 a0, .slice A1 l1.length c1] w fun e w' => e = .returned (.bool r) ∧ Below w.heap.size w w' := by
 have HR1 := Aside0.mk hr1
 have HC1 := Aside0.mk hc1
 clear hr1 hc1
 have HB := Aside0.mk (Below.refl w.heap.size w)
 have H : ((impl_inRange.f a0 1 4).bind fun t537 => (if t537 = true then (if (l1.length : Int) ≤ 8 then ((impl_one.f a0).bind fun t538 => ((impl_allIn.f l1 1 (wrap64 (t538 - 1))).bind fun t539 => (some t539))) else (some false)) else (some false))) = some r := h
 clear h
 replace H := Option.bind_eq_some_iff.mp H
 obtain ⟨t537, A30, H⟩ := H
 replace H : (if t537 = true then (if (l1.length : Int) ≤ 8 then ((impl_one.f a0).bind fun t538 => ((impl_allIn.f l1 1 (wrap64 (t538 - 1))).bind fun t539 => (some t539))) else (some false)) else (some false)) = some r := H
 have A3 := Aside0.mk A30
 clear A30
 by_cases c4 : t537 = true
 ·subst c4
  have H1 : (if (l1.length : Int) ≤ 8 then ((impl_one.f a0).bind fun t538 => ((impl_allIn.f l1 1 (wrap64 (t538 - 1))).bind fun t539 => (some t539))) else (some false)) = some r := by rw [if_pos rfl] at H; exact H
  clear H
  have H := H1
  clear H1
  by_cases c5 : (l1.length : Int) ≤ 8
  ·rw [if_pos c5] at H
   have c5b0 : decide ((l1.length : Int) ≤ 8) = true := decide_eq_true c5
   have c5b1 : decide (l1.length ≤ 8) = true := decide_eq_true (by omega)
   clear c5
   replace H := Option.bind_eq_some_iff.mp H
   obtain ⟨t538, A60, H⟩ := H
   replace H : ((impl_allIn.f l1 1 (wrap64 (t538 - 1))).bind fun t539 => (some t539)) = some r := H
   have A6 := Aside0.mk A60
   clear A60
   replace H := Option.bind_eq_some_iff.mp H
   obtain ⟨t539, A70, H⟩ := H
   replace H : (some t539) = some r := H
   have A7 := Aside0.mk A70
   clear A70
   obtain rfl := Option.some.inj H
   go_enter Tryd.func79, Tryd.ntmps79
   go_wp2_with (first | ((with_reducible refine gate_callee (f := 109) rfl ?_); refine goesS (some 6) Tryd.func109 #[.int .i64 a0, .int .i64 1, .int .i64 4] ?_; (with_reducible refine (impl_inRange.calls a0 1 4 true _ A3.out).mono ?_); rintro e w' ⟨rfl, ⟨nd, rfl⟩⟩; refine ⟨_, rfl, ?_⟩) | (go_at_call 129; (with_reducible refine (impl_one.calls a0 t538 _ A6.out).mono ?_); rintro e w' ⟨rfl, ⟨nd, rfl⟩⟩) | (go_at_call 81; (with_reducible refine (impl_allIn.calls _ _ l1 1 (wrap64 (t538 - 1)) t539 _ ?side1 ?side2 A7.out).mono ?_); (case side1 => exact cP HR1.out); (case side2 => exact HC1.out); rintro e w8 ⟨rfl, hb⟩; have n0_ := Aside0.mk (below_step (bW) hb); clear HB; have HB := n0_; clear n0_; (try clear hb); (try clear hb2); (try clear hk); (try clear hi)))
   go_ret
   exact ⟨eW, bW⟩
  ·rw [if_neg c5] at H
   have c5b0 : decide ((l1.length : Int) ≤ 8) = false := decide_eq_false c5
   have c5b1 : decide (l1.length ≤ 8) = false := decide_eq_false (by omega)
   clear c5
   obtain rfl := Option.some.inj H
   go_enter Tryd.func79, Tryd.ntmps79
   go_wp2_with (first | ((with_reducible refine gate_callee (f := 109) rfl ?_); refine goesS (some 6) Tryd.func109 #[.int .i64 a0, .int .i64 1, .int .i64 4] ?_; (with_reducible refine (impl_inRange.calls a0 1 4 true _ A3.out).mono ?_); rintro e w' ⟨rfl, ⟨nd, rfl⟩⟩; refine ⟨_, rfl, ?_⟩))
   go_ret
   exact ⟨eW, bW⟩
 ·replace c4 := Bool.eq_false_iff.mpr c4
  subst c4
  have H1 : (some false) = some r := by rw [if_neg (show ¬ (false = true) by decide)] at H; exact H
  clear H
  have H := H1
  clear H1
  obtain rfl := Option.some.inj H
  go_enter Tryd.func79, Tryd.ntmps79
  go_wp2_with (first | ((with_reducible refine gate_callee (f := 109) rfl ?_); refine goesS (some 6) Tryd.func109 #[.int .i64 a0, .int .i64 1, .int .i64 4] ?_; (with_reducible refine (impl_inRange.calls a0 1 4 false _ A3.out).mono ?_); rintro e w' ⟨rfl, ⟨nd, rfl⟩⟩; refine ⟨_, rfl, ?_⟩))
  go_ret
  exact ⟨eW, bW⟩

/-! ### impl_isGlobal: function 82 -/
def impl_isGlobal.l0 : Nat → List Int → List Int → Int → Int → Option (Bool)
 | 0, _, _, _, _ => none
 | k + 1, x0, x12, x13, x14 => if x14 < x13 then (if 0 ≤ x14 then (if x14 < (x12.length : Int) then (if x14 < (x0.length : Int) then ((impl_inRange.f (rd x12 x14) 0 (wrap64 ((rd x0 x14) - 1))).bind fun t542 => (if t542 = true then (impl_isGlobal.l0 k x0 x12 x13 (wrap64 (x14 + 1))) else (some false))) else (none)) else (none)) else (none)) else (some true)
def impl_isGlobal.f (k : Nat) (l0 : List Int) (l1 : List Int) : Option (Bool) := if (l1.length : Int) = (l0.length : Int) then (impl_isGlobal.l0 k l0 l1 (l1.length : Int) 0) else (some false)
theorem impl_isGlobal.mono_l : ∀ k, (∀ y0 y1 y2 y3, LeO (impl_isGlobal.l0 k y0 y1 y2 y3) (impl_isGlobal.l0 (k + 1) y0 y1 y2 y3))
 | 0 => fun _ _ _ _ r h => by simp [impl_isGlobal.l0] at h
 | k + 1 => by
  have ih0 := impl_isGlobal.mono_l k
  ·intro y0 y1 y2 y3
   unfold impl_isGlobal.l0
   repeat' first
   | (with_reducible exact ih0 _ _ _ _)
   | (with_reducible exact LeO.refl _)
   | (with_reducible exact LeO.none _)
   | (with_reducible refine LeO.ite ?_ ?_)
   | (with_reducible refine LeO.bind ?_ (fun _ => ?_))
   | exact ih0 _ _ _ _
   | exact LeO.none _
   | refine LeO.ite ?_ ?_
   | refine LeO.bind ?_ (fun _ => ?_)
theorem impl_isGlobal.mono : ∀ a0 a1 k, LeO (impl_isGlobal.f k a0 a1) (impl_isGlobal.f (k + 1) a0 a1) := by
 intro a0 a1 k
 have ih0 := impl_isGlobal.mono_l k
 unfold impl_isGlobal.f
 repeat' first
   | (with_reducible exact ih0 _ _ _ _)
   | (with_reducible exact LeO.refl _)
   | (with_reducible exact LeO.none _)
   | (with_reducible refine LeO.ite ?_ ?_)
   | (with_reducible refine LeO.bind ?_ (fun _ => ?_))
   | exact ih0 _ _ _ _
   | exact LeO.none _
   | refine LeO.ite ?_ ?_
   | refine LeO.bind ?_ (fun _ => ?_)
set_option maxHeartbeats 8000000 in
set_option maxRecDepth 100000 in
theorem impl_isGlobal.calls (k : Nat) (A0 : Option Addr) (c0 : Nat) (l0 : List Int) (A1 : Option Addr) (c1 : Nat) (l1 : List Int) (r : Bool) (w : World) (hr0 : Kd.C (Kd.int .i64) w A0 l0.length l0) (hc0 : l0.length ≤ c0) (hr1 : Kd.C (Kd.int .i64) w A1 l1.length l1) (hc1 : l1.length ≤ c1) (h : impl_isGlobal.f k l0 l1 = some r) :
  Calls Tryd.prog 82 #[.slice A0 l0.length c0, .slice A1 l1.length c1] w fun e w' => e = .returned (.bool r) ∧ Drawn0 w w' := by
 have HR0 := Aside0.mk hr0
 have HC0 := Aside0.mk hc0
 clear hr0 hc0
 have HR1 := Aside0.mk hr1
 have HC1 := Aside0.mk hc1
 clear hr1 hc1
 have H : (if (l1.length : Int) = (l0.length : Int) then (impl_isGlobal.l0 k l0 l1 (l1.length : Int) 0) else (some false)) = some r := h
 clear h
 by_cases c3 : (l1.length : Int) = (l0.length : Int)
 ·rw [if_pos c3] at H
  have c3b0 : ((l1.length : Int) == (l0.length : Int)) = true := beq_iff_eq.mpr c3
  have c3b1 : ((l1.length : Int) != (l0.length : Int)) = false := bne_eq_false_iff_eq.mpr c3
  have c3b2 : (l1.length == l0.length) = true := by first | simpa using c3 | (simp at c3 ⊢; omega)
  clear c3
  have H' := Aside0.mk H
  clear H
  go_enter Tryd.func82, Tryd.ntmps82
  go_wp2
  go_loopg [14] k (fun kq v14 w' => ∃ (x14_1 : Int), v14 = .int .i64 x14_1 ∧ Aside0 (impl_isGlobal.l0 kq l0 l1 (l1.length : Int) x14_1 = some r) ∧ Aside0 (kq ≤ k) ∧ Drawn0 w w')
  case atStart => exact ⟨(0), (eW), H', ⟨Nat.le_refl _⟩, by repeat (first | exact Drawn0.refl _ | apply Drawn0.step)⟩
  case round =>
   clear H'
   try clear c1
   try clear p2
   try clear c3
   try clear c3b0
   try clear c3b1
   try clear c3b2
   obtain ⟨x14_1, rfl, HA, HK1, ⟨m1, rfl⟩⟩ := hrel
   cases gk with
   | zero => exact absurd HA.out (by simp [impl_isGlobal.l0])
   | succ k1 =>
    have H := HA.out
    clear HA
    simp only [impl_isGlobal.l0] at H
    by_cases c4 : x14_1 < (l1.length : Int)
    ·rw [if_pos c4] at H
     have c4b0 : decide (x14_1 < (l1.length : Int)) = true := decide_eq_true c4
     clear c4
     by_cases c5 : 0 ≤ x14_1
     ·rw [if_pos c5] at H
      have c5b0 : decide (0 ≤ x14_1) = true := decide_eq_true c5
      clear c5
      by_cases c6 : x14_1 < (l1.length : Int)
      ·rw [if_pos c6] at H
       have c6b0 : decide (x14_1 < (l1.length : Int)) = true := decide_eq_true c6
       clear c6
       by_cases c7 : x14_1 < (l0.length : Int)
       ·rw [if_pos c7] at H
        have c7b0 : decide (x14_1 < (l0.length : Int)) = true := decide_eq_true c7
        clear c7
        replace H := Option.bind_eq_some_iff.mp H
        obtain ⟨t542, A80, H⟩ := H
        replace H : (if t542 = true then (impl_isGlobal.l0 k1 l0 l1 (l1.length : Int) (wrap64 (x14_1 + 1))) else (some false)) = some r := H
        have A8 := Aside0.mk A80
        clear A80
        by_cases c9 : t542 = true
        ·subst c9
         have H1 : (impl_isGlobal.l0 k1 l0 l1 (l1.length : Int) (wrap64 (x14_1 + 1))) = some r := by rw [if_pos rfl] at H; exact H
         clear H
         have H := H1
         clear H1
         have H' := Aside0.mk H
         clear H
         have p540 : 0 ≤ (x14_1 : Int) := ofD
         have q540 : x14_1 < (l1.length : Int) := ofD
         obtain ⟨ad540, e540, hx540_0⟩ := Kd.at_int HR1.out x14_1 p540 q540
         cases e540
         replace p540 := eq_true p540
         replace q540 := eq_true q540
         have p541 : 0 ≤ (x14_1 : Int) := ofD
         have q541 : x14_1 < (l0.length : Int) := ofD
         obtain ⟨ad541, e541, hx541_0⟩ := Kd.at_int HR0.out x14_1 p541 q541
         cases e541
         replace p541 := eq_true p541
         replace q541 := eq_true q541
         go_wp2_with (first | ((with_reducible refine gate_callee (f := 109) rfl ?_); refine goesS (some 25) Tryd.func109 #[.int .i64 (rd l1 x14_1), .int .i64 0, .int .i64 (wrap64 ((rd l0 x14_1) - 1))] ?_; (with_reducible refine (impl_inRange.calls (rd l1 x14_1) 0 (wrap64 ((rd l0 x14_1) - 1)) true _ A8.out).mono ?_); rintro e w' ⟨rfl, ⟨nd, rfl⟩⟩; refine ⟨_, rfl, ?_⟩))
         go_roundg k1
         case measure => have := HK1.out; omega
         case rel => exact ⟨(wrap64 (x14_1 + 1)), (eW), H', ⟨by have := HK1.out; omega⟩, by repeat (first | exact Drawn0.refl _ | apply Drawn0.step)⟩
        ·replace c9 := Bool.eq_false_iff.mpr c9
         subst c9
         have H1 : (some false) = some r := by rw [if_neg (show ¬ (false = true) by decide)] at H; exact H
         clear H
         have H := H1
         clear H1
         obtain rfl := Option.some.inj H
         have p540 : 0 ≤ (x14_1 : Int) := ofD
         have q540 : x14_1 < (l1.length : Int) := ofD
         obtain ⟨ad540, e540, hx540_0⟩ := Kd.at_int HR1.out x14_1 p540 q540
         cases e540
         replace p540 := eq_true p540
         replace q540 := eq_true q540
         have p541 : 0 ≤ (x14_1 : Int) := ofD
         have q541 : x14_1 < (l0.length : Int) := ofD
         obtain ⟨ad541, e541, hx541_0⟩ := Kd.at_int HR0.out x14_1 p541 q541
         cases e541
         replace p541 := eq_true p541
         replace q541 := eq_true q541
         go_wp2_with (first | ((with_reducible refine gate_callee (f := 109) rfl ?_); refine goesS (some 25) Tryd.func109 #[.int .i64 (rd l1 x14_1), .int .i64 0, .int .i64 (wrap64 ((rd l0 x14_1) - 1))] ?_; (with_reducible refine (impl_inRange.calls (rd l1 x14_1) 0 (wrap64 ((rd l0 x14_1) - 1)) false _ A8.out).mono ?_); rintro e w' ⟨rfl, ⟨nd, rfl⟩⟩; refine ⟨_, rfl, ?_⟩))
         go_ret
         exact ⟨eW, by repeat (first | exact Drawn0.refl _ | apply Drawn0.step)⟩
       ·rw [if_neg c7] at H
        exact absurd H (by simp)
      ·rw [if_neg c6] at H
       exact absurd H (by simp)
     ·rw [if_neg c5] at H
      exact absurd H (by simp)
    ·rw [if_neg c4] at H
     have c4b0 : decide (x14_1 < (l1.length : Int)) = false := decide_eq_false c4
     clear c4
     obtain rfl := Option.some.inj H
     go_wp2
     go_ret
     exact ⟨eW, by repeat (first | exact Drawn0.refl _ | apply Drawn0.step)⟩
 ·rw [if_neg c3] at H
  have c3b0 : ((l1.length : Int) == (l0.length : Int)) = false := beq_eq_false_iff_ne.mpr c3
  have c3b1 : ((l1.length : Int) != (l0.length : Int)) = true := bne_iff_ne.mpr c3
  have c3b2 : (l1.length == l0.length) = false := by first | simpa using c3 | (simp at c3 ⊢; omega)
  obtain rfl := Option.some.inj H
  go_enter Tryd.func82, Tryd.ntmps82
  go_wp2
  go_ret
  exact ⟨eW, by repeat (first | exact Drawn0.refl _ | apply Drawn0.step)⟩

/-! ### impl_locals: function 132 -/
def impl_locals.l0 : Nat → List Int → List Int → List Int → Int → Int → Option (List Int)
 | 0, _, _, _, _, _ => none
 | k + 1, x0, x5, x10, x11, x12 => if x12 < x11 then (if 0 ≤ x12 then (if x12 < (x10.length : Int) then (if 0 ≤ (rd x10 x12) then (if (rd x10 x12) < (x0.length : Int) then (if x5.length < 17592186044416 then (impl_locals.l0 k x0 (x5 ++ [rd x0 (rd x10 x12)]) x10 x11 (wrap64 (x12 + 1))) else (none)) else (none)) else (none)) else (none)) else (none)) else (some x5)
def impl_locals.f (k : Nat) (l0 : List Int) (a1 : Int) : Option (List Int) := (impl_members.f k a1).bind fun t546 => (impl_locals.l0 k l0 (([] : List Int)) t546 (t546.length : Int) 0)
theorem impl_locals.mono_l : ∀ k, (∀ y0 y1 y2 y3 y4, LeO (impl_locals.l0 k y0 y1 y2 y3 y4) (impl_locals.l0 (k + 1) y0 y1 y2 y3 y4))
 | 0 => fun _ _ _ _ _ r h => by simp [impl_locals.l0] at h
 | k + 1 => by
  have ih0 := impl_locals.mono_l k
  ·intro y0 y1 y2 y3 y4
   unfold impl_locals.l0
   repeat' first
   | (with_reducible exact ih0 _ _ _ _ _)
   | (with_reducible exact impl_members.mono _ _)
   | (with_reducible exact LeO.refl _)
   | (with_reducible exact LeO.none _)
   | (with_reducible refine LeO.ite ?_ ?_)
   | (with_reducible refine LeO.bind ?_ (fun _ => ?_))
   | exact ih0 _ _ _ _ _
   | exact impl_members.mono _ _
   | exact LeO.none _
   | refine LeO.ite ?_ ?_
   | refine LeO.bind ?_ (fun _ => ?_)
theorem impl_locals.mono : ∀ a0 a1 k, LeO (impl_locals.f k a0 a1) (impl_locals.f (k + 1) a0 a1) := by
 intro a0 a1 k
 have ih0 := impl_locals.mono_l k
 unfold impl_locals.f
 repeat' first
   | (with_reducible exact ih0 _ _ _ _ _)
   | (with_reducible exact impl_members.mono _ _)
   | (with_reducible exact LeO.refl _)
   | (with_reducible exact LeO.none _)
   | (with_reducible refine LeO.ite ?_ ?_)
   | (with_reducible refine LeO.bind ?_ (fun _ => ?_))
   | exact ih0 _ _ _ _ _
   | exact impl_members.mono _ _
   | exact LeO.none _
   | refine LeO.ite ?_ ?_
   | refine LeO.bind ?_ (fun _ => ?_)
set_option maxHeartbeats 8000000 in
set_option maxRecDepth 100000 in
theorem impl_locals.calls (k : Nat) (A0 : Option Addr) (c0 : Nat) (l0 : List Int) (a1 : Int) (r : List Int) (w : World) (hr0 : Kd.C (Kd.int .i64) w A0 l0.length l0) (hc0 : l0.length ≤ c0) (h : impl_locals.f k l0 a1 = some r) (hTab : Tab w) :
  Calls Tryd.prog 132 #[.slice A0 l0.length c0, .int .i64 a1] w fun e w' => ∃ v0_ : Value, e = .returned (v0_) ∧ Kd.R (Kd.int .i64) 2 w' w.heap.size (fun _ => True) v0_ r ∧ Below w.heap.size w w' := by
 have HTab := Aside0.mk hTab
 clear hTab
 have HR0 := Aside0.mk hr0
 have HC0 := Aside0.mk hc0
 clear hr0 hc0
 have HB := Aside0.mk (Below.refl w.heap.size w)
 have H : ((impl_members.f k a1).bind fun t546 => (impl_locals.l0 k l0 (([] : List Int)) t546 (t546.length : Int) 0)) = some r := h
 clear h
 obtain ⟨y543, hy543⟩ : ∃ y_ : List Int, y_ = (([] : List Int)) := ⟨_, rfl⟩
 replace H : ((impl_members.f k a1).bind fun t546 => (impl_locals.l0 k l0 y543 t546 (t546.length : Int) 0)) = some r := by first | (rw [hy543]; with_reducible exact H) | (have H2_ := (Option.bind_some _ _).symm.trans H; rw [hy543]; with_reducible exact H2_) | (have H2_ := (Option.bind_some _ _).symm.trans H; with_reducible exact H2_) | with_reducible exact H | (rw [hy543]; exact H) | exact H
 have Ny543 := Aside0.mk hy543
 clear hy543
 replace H := Option.bind_eq_some_iff.mp H
 obtain ⟨t546, A30, H⟩ := H
 replace H : (impl_locals.l0 k l0 y543 t546 (t546.length : Int) 0) = some r := H
 have A3 := Aside0.mk A30
 clear A30
 have H' := Aside0.mk H
 clear H
 go_enter Tryd.func132, Tryd.ntmps132
 go_wp2_with (first | ((with_reducible refine gate_dst (N := 8) rfl ?_); refine Kd.R_lit (Kd.int .i64) _ 2 ?hg (N := 8) ?hd (xs := ([] : List Int)) (inner := []) (ok := fun _ => True) (okp := fun _ => True) ?hr ?hp (fun _ hk => hk) trivial (Below.refl _ _) (Nat.le_refl _) (by simp) ?_; (case hd => rfl); (case hg => rfl); (case hr => first | (go_simp; done) | (go_simp; rfl)); (case hp => exact (Reps.none _ _)); intro v544 w4 ho5 hb hg_ hnew_; clear hg_ hnew_; (first | rw [← Ny543.out] at ho5 | (simp only [Int.reduceToNat] at ho5; rw [← Ny543.out] at ho5)); have n0_ := Aside0.mk (Kd.R_lower ho5 (below_size (bW))); have n1_ := Aside0.mk (below_step (bW) hb); clear HB; have HO545 := n0_; have HB := n1_; clear n0_ n1_; clear hb ho5) | ((with_reducible refine gate_callee (f := 140) rfl ?_); refine goesS (some 10) Tryd.func140 #[.int .i64 a1] ?_; (with_reducible refine (impl_members.calls k a1 t546 _ A3.out (tabW HTab.out)).mono ?_); rintro e w6 ⟨v547, rfl, ho0, hb⟩; refine ⟨_, rfl, ?_⟩; have n0_ := Aside0.mk (Kd.R_elder' (rP HO545.out) (Kd.R_base ho0) hb); have n1_ := Aside0.mk (Kd.R_lower (Kd.R_new' ho0 (Kd.R_lt (rP HO545.out))) (below_size (bW))); have n2_ := Aside0.mk (below_step (bW) hb); clear HO545; clear HB; have HO545 := n0_; have HO548 := n1_; have HB := n2_; clear n0_ n1_ n2_; (try clear hb); (try clear hb2); (try clear hk); (try clear hi); (try clear ho0); obtain ⟨Ao7, co7, eo7⟩ := Kd.R_slice HO548.out; subst eo7))
 go_loopg [5, 12] k (fun kq v5 v12 w' => ∃ (x5_1 : List Int) (x12_1 : Int), v12 = .int .i64 x12_1 ∧ Aside0 (impl_locals.l0 kq l0 x5_1 t546 (t546.length : Int) x12_1 = some r) ∧ Aside0 (kq ≤ k) ∧ Aside0 (Kd.R (Kd.int .i64) 2 w' w.heap.size (fun k_ => some k_ ≠ ((.slice Ao7 t546.length co7) : Value).ownBlock) v5 x5_1) ∧ Aside0 (Kd.R (Kd.int .i64) 2 w' w.heap.size (fun k_ => some k_ ≠ (v5 : Value).ownBlock) (.slice Ao7 t546.length co7) t546) ∧ Aside0 (Below w.heap.size w w'))
 case atStart => exact ⟨(y543), (0), (eW), H', ⟨Nat.le_refl _⟩, ⟨by (with_reducible repeat (first | apply Kd.R_alloc | apply Kd.R_drewN | apply Kd.R_drew)); exact Kd.R_mono HO545.out (fun _ hk => hk.2)⟩, ⟨by (with_reducible repeat (first | apply Kd.R_alloc | apply Kd.R_drewN | apply Kd.R_drew)); exact Kd.R_mono HO548.out (fun _ hk => hk.2)⟩, ⟨bW⟩⟩
 case round =>
  clear H'
  try clear c1
  try clear p2
  obtain ⟨x5_1, x12_1, rfl, HA, HK1, HO_5, HO_10, HB⟩ := hrel
  cases gk with
  | zero => exact absurd HA.out (by simp [impl_locals.l0])
  | succ k1 =>
   have H := HA.out
   clear HA
   simp only [impl_locals.l0] at H
   by_cases c8 : x12_1 < (t546.length : Int)
   ·rw [if_pos c8] at H
    have c8b0 : decide (x12_1 < (t546.length : Int)) = true := decide_eq_true c8
    clear c8
    by_cases c9 : 0 ≤ x12_1
    ·rw [if_pos c9] at H
     have c9b0 : decide (0 ≤ x12_1) = true := decide_eq_true c9
     clear c9
     by_cases c10 : x12_1 < (t546.length : Int)
     ·rw [if_pos c10] at H
      have c10b0 : decide (x12_1 < (t546.length : Int)) = true := decide_eq_true c10
      clear c10
      by_cases c11 : 0 ≤ (rd t546 x12_1)
      ·rw [if_pos c11] at H
       have c11b0 : decide (0 ≤ (rd t546 x12_1)) = true := decide_eq_true c11
       clear c11
       by_cases c12 : (rd t546 x12_1) < (l0.length : Int)
       ·rw [if_pos c12] at H
        have c12b0 : decide ((rd t546 x12_1) < (l0.length : Int)) = true := decide_eq_true c12
        clear c12
        by_cases c13 : x5_1.length < 17592186044416
        ·rw [if_pos c13] at H
         have LMc13 := Aside0.mk c13
         clear c13
         obtain ⟨y551, hy551⟩ : ∃ y_ : List Int, y_ = (x5_1 ++ [rd l0 (rd t546 x12_1)]) := ⟨_, rfl⟩
         replace H : (impl_locals.l0 k1 l0 y551 t546 (t546.length : Int) (wrap64 (x12_1 + 1))) = some r := by first | (rw [hy551]; with_reducible exact H) | (have H2_ := (Option.bind_some _ _).symm.trans H; rw [hy551]; with_reducible exact H2_) | (have H2_ := (Option.bind_some _ _).symm.trans H; with_reducible exact H2_) | with_reducible exact H | (rw [hy551]; exact H) | exact H
         have Ny551 := Aside0.mk hy551
         clear hy551
         have H' := Aside0.mk H
         clear H
         have p549 : 0 ≤ (x12_1 : Int) := ofD
         have q549 : x12_1 < (t546.length : Int) := ofD
         obtain ⟨ad549, e549, hx549_0⟩ := Kd.at_int (Kd.R_reads' HO_10.out).2.2 x12_1 p549 q549
         cases e549
         replace p549 := eq_true p549
         replace q549 := eq_true q549
         have p550 : 0 ≤ ((rd t546 x12_1) : Int) := ofD
         have q550 : (rd t546 x12_1) < (l0.length : Int) := ofD
         obtain ⟨ad550, e550, hx550_0⟩ := Kd.at_int HR0.out (rd t546 x12_1) p550 q550
         cases e550
         replace hx550_0 := (HB.out.cell (World.block_lt_of_cell? w _ hx550_0)).trans hx550_0
         replace p550 := eq_true p550
         replace q550 := eq_true q550
         go_wp2_with (first | ((with_reducible refine gate_builtin (b := .append) (xs := #[.tmp 16, .tmp 21]) rfl ?_); at_builtin; refine Kd.R_append (Kd.int .i64) (w0 := w) w.heap.size rfl (.tmp 16) (.tmp 21) 22 2 (.int .i64 0) 8 rfl Tryd.underlying22 info2 rfl (by decide) (by omega) u5 x5_1 (rd l0 (rd t546 x12_1)) [.int .i64 (rd l0 (rd t546 x12_1))] (fun k_ => some k_ ≠ (.slice (some ad549) t546.length co7 : Value).ownBlock) (fun _ => False) rfl rfl ?aP (fun _ hk => hk.elim) ?aF ?aO ?aB ?aS ?aL ?_; (case aP => exact rfl); (case aB => exact (bW)); (case aF => exact (fun k_ hk => Kd.fresh' (Kd.R_lt (rP HO_10.out)) k_ hk)); (case aO => exact (rP HO_5.out)); (case aS => exact (below_size (bW))); (case aL => have := LMc13.out; omega); intro v552 w14 ho hb hg hat; rw [← Ny551.out] at ho; have n0_ := Aside0.mk (Kd.R_after (ok := (fun _ => True)) (by (with_reducible repeat (first | apply Kd.R_alloc | apply Kd.R_drewN | apply Kd.R_drew)); exact Kd.R_mono HO_10.out (fun _ hk => ⟨trivial, hk⟩)) hg hat); have n1_ := Aside0.mk (hb); have n2_ := Aside0.mk (ho); clear HO_10; clear HB; clear HO_5; have HO_10 := n0_; have HB := n1_; have HO553 := n2_; clear n0_ n1_ n2_; clear ho hb hg hat))
         go_roundg k1
         case measure => have := HK1.out; omega
         case rel => exact ⟨(y551), (wrap64 (x12_1 + 1)), (eW), H', ⟨by have := HK1.out; omega⟩, ⟨(rP HO553.out)⟩, ⟨by (with_reducible repeat (first | apply Kd.R_alloc | apply Kd.R_drewN | apply Kd.R_drew)); exact Kd.R_mono HO_10.out (fun _ hk => hk.2)⟩, ⟨bW⟩⟩
        ·rw [if_neg c13] at H
         exact absurd H (by simp)
       ·rw [if_neg c12] at H
        exact absurd H (by simp)
      ·rw [if_neg c11] at H
       exact absurd H (by simp)
     ·rw [if_neg c10] at H
      exact absurd H (by simp)
    ·rw [if_neg c9] at H
     exact absurd H (by simp)
   ·rw [if_neg c8] at H
    have c8b0 : decide (x12_1 < (t546.length : Int)) = false := decide_eq_false c8
    clear c8
    obtain rfl := Option.some.inj H
    go_wp2
    go_ret
    exact ⟨_, eW, by (with_reducible repeat (first | apply Kd.R_alloc | apply Kd.R_drewN | apply Kd.R_drew)); exact Kd.R_mono HO_5.out (fun _ hk => trivial), bW⟩

/-! ### impl_compareJoints: function 133 -/
def impl_compareJoints.f (k : Nat) (a0_0 : Int) (l0_1 : List Int) (l0_2 : List Int) (a1_0 : Int) (l1_1 : List Int) (l1_2 : List Int) : Option (Int) := if a0_0 = a1_0 then ((slices_Compare_int64_int64.f k l0_1 l1_1).bind fun t556 => (some t556)) else (some (wrap64 (a0_0 - a1_0)))
theorem impl_compareJoints.mono : ∀ a0 a1 a2 a3 a4 a5 k, LeO (impl_compareJoints.f k a0 a1 a2 a3 a4 a5) (impl_compareJoints.f (k + 1) a0 a1 a2 a3 a4 a5) := by
 intro a0 a1 a2 a3 a4 a5 k
 unfold impl_compareJoints.f
 repeat' first
   | (with_reducible exact slices_Compare_int64_int64.mono _ _ _)
   | (with_reducible exact LeO.refl _)
   | (with_reducible exact LeO.none _)
   | (with_reducible refine LeO.ite ?_ ?_)
   | (with_reducible refine LeO.bind ?_ (fun _ => ?_))
   | exact slices_Compare_int64_int64.mono _ _ _
   | exact LeO.none _
   | refine LeO.ite ?_ ?_
   | refine LeO.bind ?_ (fun _ => ?_)
set_option maxHeartbeats 8000000 in
set_option maxRecDepth 100000 in
theorem impl_compareJoints.calls (k : Nat) (a0_0 : Int) (A0_1 : Option Addr) (c0_1 : Nat) (l0_1 : List Int) (A0_2 : Option Addr) (c0_2 : Nat) (l0_2 : List Int) (a1_0 : Int) (A1_1 : Option Addr) (c1_1 : Nat) (l1_1 : List Int) (A1_2 : Option Addr) (c1_2 : Nat) (l1_2 : List Int) (r : Int) (w : World) (hr0_1 : Kd.C (Kd.int .i64) w A0_1 l0_1.length l0_1) (hc0_1 : l0_1.length ≤ c0_1) (hr0_2 : Kd.C (Kd.int .i64) w A0_2 l0_2.length l0_2) (hc0_2 : l0_2.length ≤ c0_2) (hr1_1 : Kd.C (Kd.int .i64) w A1_1 l1_1.length l1_1) (hc1_1 : l1_1.length ≤ c1_1) (hr1_2 : Kd.C (Kd.int .i64) w A1_2 l1_2.length l1_2) (hc1_2 : l1_2.length ≤ c1_2) (h : impl_compareJoints.f k a0_0 l0_1 l0_2 a1_0 l1_1 l1_2 = some r) :
  Calls Tryd.prog 133 #[.agg #[.int .i64 a0_0, .slice A0_1 l0_1.length c0_1, .slice A0_2 l0_2.length c0_2], .agg #[.int .i64 a1_0, .slice A1_1 l1_1.length c1_1, .slice A1_2 l1_2.length c1_2]] w fun e w' => e = .returned (.int .i64 r) ∧ Below w.heap.size w w' := by
 have hu149 := Tryd.underlying149
 have HR0_1 := Aside0.mk hr0_1
 have HC0_1 := Aside0.mk hc0_1
 clear hr0_1 hc0_1
 have HR0_2 := Aside0.mk hr0_2
 have HC0_2 := Aside0.mk hc0_2
 clear hr0_2 hc0_2
 have HR1_1 := Aside0.mk hr1_1
 have HC1_1 := Aside0.mk hc1_1
 clear hr1_1 hc1_1
 have HR1_2 := Aside0.mk hr1_2
 have HC1_2 := Aside0.mk hc1_2
 clear hr1_2 hc1_2
 have HB := Aside0.mk (Below.refl w.heap.size w)
 have H : (if a0_0 = a1_0 then ((slices_Compare_int64_int64.f k l0_1 l1_1).bind fun t556 => (some t556)) else (some (wrap64 (a0_0 - a1_0)))) = some r := h
 clear h
 by_cases c3 : a0_0 = a1_0
 ·rw [if_pos c3] at H
  have c3b0 : (a0_0 == a1_0) = true := beq_iff_eq.mpr c3
  have c3b1 : (a0_0 != a1_0) = false := bne_eq_false_iff_eq.mpr c3
  clear c3
  replace H := Option.bind_eq_some_iff.mp H
  obtain ⟨t556, A40, H⟩ := H
  replace H : (some t556) = some r := H
  have A4 := Aside0.mk A40
  clear A40
  obtain rfl := Option.some.inj H
  go_enter Tryd.func133, Tryd.ntmps133
  go_wp2_with (first | ((with_reducible refine gate_dst (N := 2) rfl ?_); refine boxS (N := 2) (cs := #[.int .i64 a0_0, .slice A0_1 l0_1.length c0_1, .slice A0_2 l0_2.length c0_2]) (t := 149) ?_; intro gb554 hg w5 hbox hb; have n0_ := Aside0.mk (below_step (bW) hb); have n1_ := Aside0.mk (hbox); have n2_ := geW (w := w) hg; have n3_ := geW (w := w) hg; clear HB; have HB := n0_; have BK554 := n1_; have GW554 := n2_; have GE554 := n3_; clear n0_ n1_ n2_ n3_; clear hb hbox hg) | ((with_reducible refine gate_dst (N := 3) rfl ?_); refine boxS (N := 3) (cs := #[.int .i64 a1_0, .slice A1_1 l1_1.length c1_1, .slice A1_2 l1_2.length c1_2]) (t := 149) ?_; intro gb555 hg w6 hbox hb; have n0_ := Aside0.mk (blkB BK554.out hb); have n1_ := Aside0.mk (below_step (bW) hb); have n2_ := Aside0.mk (hbox); have n3_ := geW (w := w) hg; have n4_ := geW (w := w) hg; have n5_ := Aside0.mk ((by rw [hg]; exact Nat.ne_of_lt (blk_lt (g := gb554) (o := .cells #[.int .i64 a0_0, .slice A0_1 l0_1.length c0_1, .slice A0_2 l0_2.length c0_2] 149 (0, 0)) (bP BK554.out)) : gb554 ≠ gb555)); have n6_ := Aside0.mk ((by rw [hg]; exact Nat.ne_of_gt (blk_lt (g := gb554) (o := .cells #[.int .i64 a0_0, .slice A0_1 l0_1.length c0_1, .slice A0_2 l0_2.length c0_2] 149 (0, 0)) (bP BK554.out)) : gb555 ≠ gb554)); clear BK554; clear HB; have BK554 := n0_; have HB := n1_; have BK555 := n2_; have GW555 := n3_; have GE555 := n4_; have NB554_555 := n5_; have NB555_554 := n6_; clear n0_ n1_ n2_ n3_ n4_ n5_ n6_; clear hb hbox hg; have hnb7 := NB554_555.out; have hnc7 := NB555_554.out; obtain ⟨hcz8_0, hcz8_1, hcz8_2⟩ := cells3 BK554.out; obtain ⟨hfz8_0, hfz8_1, hfz8_2⟩ := frz3 BK554.out; obtain ⟨hcz9_0, hcz9_1, hcz9_2⟩ := cells3 BK555.out; obtain ⟨hfz9_0, hfz9_1, hfz9_2⟩ := frz3 BK555.out) | ((with_reducible refine gate_callee (f := 84) rfl ?_); refine goesS (some 19) Tryd.func84 #[.slice A0_1 l0_1.length c0_1, .slice A1_1 l1_1.length c1_1] ?_; (with_reducible refine (slices_Compare_int64_int64.calls k _ _ l0_1 _ _ l1_1 t556 _ ?side1 ?side2 ?side3 ?side4 A4.out).mono ?_); (case side1 => exact cP (Kd.C_below HR0_1.out HB.out)); (case side2 => exact HC0_1.out); (case side3 => exact cP (Kd.C_below HR1_1.out HB.out)); (case side4 => exact HC1_1.out); rintro e w' ⟨rfl, ⟨nd, rfl⟩⟩; refine ⟨_, rfl, ?_⟩))
  go_ret
  exact ⟨eW, bW⟩
 ·rw [if_neg c3] at H
  have c3b0 : (a0_0 == a1_0) = false := beq_eq_false_iff_ne.mpr c3
  have c3b1 : (a0_0 != a1_0) = true := bne_iff_ne.mpr c3
  obtain rfl := Option.some.inj H
  go_enter Tryd.func133, Tryd.ntmps133
  go_wp2_with (first | ((with_reducible refine gate_dst (N := 2) rfl ?_); refine boxS (N := 2) (cs := #[.int .i64 a0_0, .slice A0_1 l0_1.length c0_1, .slice A0_2 l0_2.length c0_2]) (t := 149) ?_; intro gb554 hg w10 hbox hb; have n0_ := Aside0.mk (below_step (bW) hb); have n1_ := Aside0.mk (hbox); have n2_ := geW (w := w) hg; have n3_ := geW (w := w) hg; clear HB; have HB := n0_; have BK554 := n1_; have GW554 := n2_; have GE554 := n3_; clear n0_ n1_ n2_ n3_; clear hb hbox hg) | ((with_reducible refine gate_dst (N := 3) rfl ?_); refine boxS (N := 3) (cs := #[.int .i64 a1_0, .slice A1_1 l1_1.length c1_1, .slice A1_2 l1_2.length c1_2]) (t := 149) ?_; intro gb555 hg w11 hbox hb; have n0_ := Aside0.mk (blkB BK554.out hb); have n1_ := Aside0.mk (below_step (bW) hb); have n2_ := Aside0.mk (hbox); have n3_ := geW (w := w) hg; have n4_ := geW (w := w) hg; have n5_ := Aside0.mk ((by rw [hg]; exact Nat.ne_of_lt (blk_lt (g := gb554) (o := .cells #[.int .i64 a0_0, .slice A0_1 l0_1.length c0_1, .slice A0_2 l0_2.length c0_2] 149 (0, 0)) (bP BK554.out)) : gb554 ≠ gb555)); have n6_ := Aside0.mk ((by rw [hg]; exact Nat.ne_of_gt (blk_lt (g := gb554) (o := .cells #[.int .i64 a0_0, .slice A0_1 l0_1.length c0_1, .slice A0_2 l0_2.length c0_2] 149 (0, 0)) (bP BK554.out)) : gb555 ≠ gb554)); clear BK554; clear HB; have BK554 := n0_; have HB := n1_; have BK555 := n2_; have GW555 := n3_; have GE555 := n4_; have NB554_555 := n5_; have NB555_554 := n6_; clear n0_ n1_ n2_ n3_ n4_ n5_ n6_; clear hb hbox hg; have hnb12 := NB554_555.out; have hnc12 := NB555_554.out; obtain ⟨hcz13_0, hcz13_1, hcz13_2⟩ := cells3 BK554.out; obtain ⟨hfz13_0, hfz13_1, hfz13_2⟩ := frz3 BK554.out; obtain ⟨hcz14_0, hcz14_1, hcz14_2⟩ := cells3 BK555.out; obtain ⟨hfz14_0, hfz14_1, hfz14_2⟩ := frz3 BK555.out))
  go_ret
  exact ⟨eW, bW⟩

end Go.Proofs.YthbaocejgjpfoaaDoor.P
end M0
