import Derived.ArgAppend
import Derived.Below
import Derived.BigQuiet
import Derived.Deep.AppendLies
import Derived.Deep.CutBlock
import Derived.Deep.DeepCutAuto
import Derived.Deep.Draws
import Derived.Deep.LoopGhost
import Derived.Deep.OwnRows
import Derived.Deep.QuietTactic
import Derived.Deep.RegionHeld3
import Derived.KernelRfl
import Derived.Laws.BitsLemmas
import Derived.Laws.BytesArg
import Derived.Laws.IdiomCopy
import Derived.Laws.MakeOwn
import Derived.Laws.OwnMore
import Derived.Laws.Rows
import Derived.Laws.Slices
import Derived.Laws.StructEq
import Derived.Lib.AppendStr
import Derived.Lib.ConvBytes
import Derived.Lib.SliceRun
import Derived.Maps.AppendAt
import Derived.OrdersHeld
import Derived.OwnWalk
import Derived.RowKit
import Derived.RowKit3
import Derived.Shelf.Abstract
import Derived.Shelf.Spec.TrailingZeros
import Derived.Tactics
import Derived.Test.YthbaocejgjpfoaaDoorProg
import Derived.WalkKit
import Derived.WideLaws
import Derived.Test.YthbaocejgjpfoaaDoorCFnExactDiamondFault2
import Derived.Test.YthbaocejgjpfoaaDoorCFnExactDiamondFault3
import Derived.Test.YthbaocejgjpfoaaDoorCFnExactDiamondFault4
import Derived.Test.YthbaocejgjpfoaaDoorCFnExactDiamondFault5
section M0
namespace Go.Proofs.YthbaocejgjpfoaaDoor.P
open Go.RowKit Go.Proofs.YthbaocejgjpfoaaDoor.Sh Go.Proofs.YthbaocejgjpfoaaDoorW.PrintWords Go.Proofs.YthbaocejgjpfoaaDoorW.PrintLast Go.Proofs.YthbaocejgjpfoaaDoorW.PrintMore
attribute [local go_sem] max2_int min2_int max_two min_two max_three min_three max_four min_four   -- for this text's walks alone
set_option linter.unusedVariables false
set_option linter.unusedSimpArgs false
/-! ### spec_HasDiamonds: function 26 -/
/-! ### laws_toAutomaton: function 27 -/
def laws_toAutomaton.f (k : Nat) (a0_0 : Int) (a0_1 : Int) (a0_2 : Int) (l0_3 : List (List Int)) : Option (Int × Int × Int × (List (List Int))) := (laws_toInt64SS.f k l0_3).bind fun t409 => (some (a0_0, a0_1, a0_2, t409))
set_option maxHeartbeats 8000000 in
set_option maxRecDepth 100000 in
theorem laws_toAutomaton.calls (k : Nat) (a0_0 : Int) (a0_1 : Int) (a0_2 : Int) (A0_3 : Option Addr) (c0_3 : Nat) (l0_3 : List (List Int)) (r1 : Int) (r2 : Int) (r3 : Int) (r4 : List (List Int)) (w : World) (hr0_3 : Kd.C (Kd.slice 2 (Kd.int .i64)) w A0_3 l0_3.length l0_3) (hc0_3 : l0_3.length ≤ c0_3) (h : laws_toAutomaton.f k a0_0 a0_1 a0_2 l0_3 = some (r1, r2, r3, r4)) :
  Calls Tryd.prog 27 #[.agg #[.int .i64 a0_0, .int .i64 a0_1, .int .i64 a0_2, .slice A0_3 l0_3.length c0_3]] w fun e w' => ∃ v3_ : Value, e = .returned (.agg #[.int .i64 r1, .int .i64 r2, .int .i64 r3, v3_]) ∧ Kd.S (Kd.slice 2 (Kd.int .i64)) 22 w' w.heap.size (fun _ => True) v3_ r4 ∧ Below w.heap.size w w' := by
 have hu44 := Tryd.underlying44
 have hu48 := Tryd.underlying48
 have HR0_3 := Aside0.mk hr0_3
 have HC0_3 := Aside0.mk hc0_3
 clear hr0_3 hc0_3
 have HB := Aside0.mk (Below.refl w.heap.size w)
 have H : ((laws_toInt64SS.f k l0_3).bind fun t409 => (some (a0_0, a0_1, a0_2, t409))) = some (r1, r2, r3, r4) := h
 clear h
 replace H := Option.bind_eq_some_iff.mp H
 obtain ⟨t409, A20, H⟩ := H
 replace H : (some (a0_0, a0_1, a0_2, t409)) = some (r1, r2, r3, r4) := H
 have A2 := Aside0.mk A20
 clear A20
 simp only [Option.some.injEq, Prod.mk.injEq] at H
 obtain ⟨rfl, rfl, rfl, rfl⟩ := H
 go_enter Tryd.func27, Tryd.ntmps27
 go_wp2_with (first | ((with_reducible refine gate_dst (N := 1) rfl ?_); refine boxS (N := 1) (cs := #[.int .i64 a0_0, .int .i64 a0_1, .int .i64 a0_2, .slice A0_3 l0_3.length c0_3]) (t := 44) ?_; intro gb406 hg w3 hbox hb; have n0_ := Aside0.mk (below_step (bW) hb); have n1_ := Aside0.mk (hbox); have n2_ := geW (w := w) hg; have n3_ := geW (w := w) hg; clear HB; have HB := n0_; have BK406 := n1_; have GW406 := n2_; have GE406 := n3_; clear n0_ n1_ n2_ n3_ hb hbox hg) | ((with_reducible refine gate_dst (N := 2) rfl ?_); refine boxS (N := 2) (cs := #[.int .i64 0, .int .i64 0, .int .i64 0, .slice none 0 0]) (t := 48) ?_; intro gb407 hg w4 hbox hb; have n0_ := Aside0.mk (blkB BK406.out hb); have n1_ := Aside0.mk (below_step (bW) hb); have n2_ := Aside0.mk (hbox); have n3_ := geW (w := w) hg; have n4_ := geW (w := w) hg; have n5_ := Aside0.mk ((by rw [hg]; exact Nat.ne_of_lt (blk_lt (g := gb406) (o := .cells #[.int .i64 a0_0, .int .i64 a0_1, .int .i64 a0_2, .slice A0_3 l0_3.length c0_3] 44 (0, 0)) (bP BK406.out)) : gb406 ≠ gb407)); have n6_ := Aside0.mk ((by rw [hg]; exact Nat.ne_of_gt (blk_lt (g := gb406) (o := .cells #[.int .i64 a0_0, .int .i64 a0_1, .int .i64 a0_2, .slice A0_3 l0_3.length c0_3] 44 (0, 0)) (bP BK406.out)) : gb407 ≠ gb406)); clear BK406 HB; have BK406 := n0_; have HB := n1_; have BK407 := n2_; have GW407 := n3_; have GE407 := n4_; have NB406_407 := n5_; have NB407_406 := n6_; clear n0_ n1_ n2_ n3_ n4_ n5_ n6_ hb hbox hg) | ((with_reducible refine gate_dst (N := 3) rfl ?_); refine boxS (N := 3) (cs := #[.int .i64 0, .int .i64 0, .int .i64 0, .slice none 0 0]) (t := 48) ?_; intro gb408 hg w5 hbox hb; have n0_ := Aside0.mk (blkB BK406.out hb); have n1_ := Aside0.mk (blkB BK407.out hb); have n2_ := Aside0.mk (below_step (bW) hb); have n3_ := Aside0.mk (hbox); have n4_ := geW (w := w) hg; have n5_ := geW (w := w) hg; have n6_ := Aside0.mk ((by rw [hg]; exact Nat.ne_of_lt (blk_lt (g := gb406) (o := .cells #[.int .i64 a0_0, .int .i64 a0_1, .int .i64 a0_2, .slice A0_3 l0_3.length c0_3] 44 (0, 0)) (bP BK406.out)) : gb406 ≠ gb408)); have n7_ := Aside0.mk ((by rw [hg]; exact Nat.ne_of_gt (blk_lt (g := gb406) (o := .cells #[.int .i64 a0_0, .int .i64 a0_1, .int .i64 a0_2, .slice A0_3 l0_3.length c0_3] 44 (0, 0)) (bP BK406.out)) : gb408 ≠ gb406)); have n8_ := Aside0.mk ((by rw [hg]; exact Nat.ne_of_lt (blk_lt (g := gb407) (o := .cells #[.int .i64 0, .int .i64 0, .int .i64 0, .slice none 0 0] 48 (0, 0)) (bP BK407.out)) : gb407 ≠ gb408)); have n9_ := Aside0.mk ((by rw [hg]; exact Nat.ne_of_gt (blk_lt (g := gb407) (o := .cells #[.int .i64 0, .int .i64 0, .int .i64 0, .slice none 0 0] 48 (0, 0)) (bP BK407.out)) : gb408 ≠ gb407)); clear BK406 BK407 HB; have BK406 := n0_; have BK407 := n1_; have HB := n2_; have BK408 := n3_; have GW408 := n4_; have GE408 := n5_; have NB406_408 := n6_; have NB408_406 := n7_; have NB407_408 := n8_; have NB408_407 := n9_; clear n0_ n1_ n2_ n3_ n4_ n5_ n6_ n7_ n8_ n9_ hb hbox hg; have hnb6 := NB406_407.out; have hnc6 := NB407_406.out; have hnb7 := NB406_408.out; have hnc7 := NB408_406.out; obtain ⟨hcz8_0, hcz8_1, hcz8_2, hcz8_3⟩ := cells4 BK406.out; obtain ⟨hfz8_0, hfz8_1, hfz8_2, hfz8_3⟩ := frz4 BK406.out; have hnb9 := NB408_407.out; have hnc9 := NB407_408.out; obtain ⟨hcz10_0, hcz10_1, hcz10_2, hcz10_3⟩ := cells4 BK408.out; obtain ⟨hfz10_0, hfz10_1, hfz10_2, hfz10_3⟩ := frz4 BK408.out) | ((with_reducible refine gate_callee (f := 16) rfl ?_); refine goesS (some 15) Tryd.func16 #[.slice A0_3 l0_3.length c0_3] ?_; (with_reducible refine (laws_toInt64SS.calls k _ _ l0_3 t409 _ ?side1 ?side2 A2.out).mono ?_); (case side1 => exact Kd.C_below HR0_3.out (bW)); (case side2 => exact HC0_3.out); rintro e w11 ⟨v410, rfl, ho0, hb⟩; refine ⟨_, rfl, ?_⟩; have n0_ := Aside0.mk (Kd.S_lower ho0 (below_size (bW))); have n1_ := Aside0.mk (blk_below (g := gb406) (o := .cells #[.int .i64 a0_0, .int .i64 a0_1, .int .i64 a0_2, .slice A0_3 l0_3.length c0_3] 44 (0, 0)) (by (with_reducible repeat (first | refine blk_drewN ?_ _ | refine blk_drew ?_ | refine blk_alloc ?_ _)); refine blk_far ?_ NB406_408.out _; (with_reducible repeat (first | refine blk_drewN ?_ _ | refine blk_drew ?_ | refine blk_alloc ?_ _)); refine blk_far ?_ NB406_408.out _; (with_reducible repeat (first | refine blk_drewN ?_ _ | refine blk_drew ?_ | refine blk_alloc ?_ _)); refine blk_far ?_ NB406_408.out _; exact bP BK406.out) hb); have n2_ := Aside0.mk (blk_below (g := gb407) (o := .cells #[.int .i64 0, .int .i64 0, .int .i64 0, .slice none 0 0] 48 (0, 0)) (by (with_reducible repeat (first | refine blk_drewN ?_ _ | refine blk_drew ?_ | refine blk_alloc ?_ _)); refine blk_far ?_ NB407_408.out _; (with_reducible repeat (first | refine blk_drewN ?_ _ | refine blk_drew ?_ | refine blk_alloc ?_ _)); refine blk_far ?_ NB407_408.out _; (with_reducible repeat (first | refine blk_drewN ?_ _ | refine blk_drew ?_ | refine blk_alloc ?_ _)); refine blk_far ?_ NB407_408.out _; exact bP BK407.out) hb); have n3_ := Aside0.mk (blk_below (g := gb408) (o := .cells #[.int .i64 a0_0, .int .i64 a0_1, .int .i64 a0_2, .slice none 0 0] 48 (0, 0)) (by (with_reducible repeat (first | refine blk_drewN ?_ _ | refine blk_drew ?_ | refine blk_alloc ?_ _)); refine blk_put (cs := #[.int .i64 a0_0, .int .i64 a0_1, .int .i64 0, .slice none 0 0]) ?_ 2 _ rfl; (with_reducible repeat (first | refine blk_drewN ?_ _ | refine blk_drew ?_ | refine blk_alloc ?_ _)); refine blk_put (cs := #[.int .i64 a0_0, .int .i64 0, .int .i64 0, .slice none 0 0]) ?_ 1 _ rfl; (with_reducible repeat (first | refine blk_drewN ?_ _ | refine blk_drew ?_ | refine blk_alloc ?_ _)); refine blk_put (cs := #[.int .i64 0, .int .i64 0, .int .i64 0, .slice none 0 0]) ?_ 0 _ rfl; exact bP BK408.out) hb); have n4_ := Aside0.mk (below_step (bW) hb); clear BK406 BK407 BK408 HB; have HO411 := n0_; have BK406 := n1_; have BK407 := n2_; have BK408 := n3_; have HB := n4_; clear n0_ n1_ n2_ n3_ n4_; (try clear hb); (try clear hb2); (try clear hk); (try clear hi); (try clear ho0); obtain ⟨Ao12, co12, eo12⟩ := Kd.S_slice HO411.out; subst eo12; obtain ⟨hcz13_0, hcz13_1, hcz13_2, hcz13_3⟩ := cells4 BK408.out; obtain ⟨hfz13_0, hfz13_1, hfz13_2, hfz13_3⟩ := frz4 BK408.out; obtain ⟨hcz14_0, hcz14_1, hcz14_2, hcz14_3⟩ := cells4 BK407.out; obtain ⟨hfz14_0, hfz14_1, hfz14_2, hfz14_3⟩ := frz4 BK407.out))
 refine bodyPost_ret (results_cell_row rfl _ _ gb407 48 #[.int .i64 a0_0, .int .i64 a0_1, .int .i64 a0_2, .slice Ao12 t409.length co12] (0, 0) _ rfl (by (with_reducible repeat (first | refine blk_drewN ?_ _ | refine blk_drew ?_ | refine blk_alloc ?_ _)); refine blk_put (cs := #[.int .i64 a0_0, .int .i64 a0_1, .int .i64 a0_2, .slice none 0 0]) ?_ 3 _ rfl; (with_reducible repeat (first | refine blk_drewN ?_ _ | refine blk_drew ?_ | refine blk_alloc ?_ _)); refine blk_put (cs := #[.int .i64 a0_0, .int .i64 a0_1, .int .i64 0, .slice none 0 0]) ?_ 2 _ rfl; (with_reducible repeat (first | refine blk_drewN ?_ _ | refine blk_drew ?_ | refine blk_alloc ?_ _)); refine blk_put (cs := #[.int .i64 a0_0, .int .i64 0, .int .i64 0, .slice none 0 0]) ?_ 1 _ rfl; (with_reducible repeat (first | refine blk_drewN ?_ _ | refine blk_drew ?_ | refine blk_alloc ?_ _)); refine blk_put (cs := #[.int .i64 0, .int .i64 0, .int .i64 0, .slice none 0 0]) ?_ 0 _ rfl; (with_reducible repeat (first | refine blk_drewN ?_ _ | refine blk_drew ?_ | refine blk_alloc ?_ _)); refine blk_far ?_ NB407_408.out _; exact bP BK407.out) Tryd.underlying48 rfl (by kernel_rfl)) rfl ?_
 exact ⟨_, eW, by (with_reducible repeat (first | apply Kd.S_alloc | apply Kd.S_drewN | apply Kd.S_drew)); exact Kd.S_mono (Kd.S_far (p := ⟨gb407, 3, none⟩) (Kd.S_far (p := ⟨gb407, 2, none⟩) (Kd.S_far (p := ⟨gb407, 1, none⟩) (Kd.S_far (p := ⟨gb407, 0, none⟩) (Kd.S_far (p := ⟨gb408, 3, none⟩) (Kd.S_types (Kd.S_types HO411.out BK408.out (by decide)) BK407.out (by decide)) (fun _ hk => hk.1.2) (.slice Ao12 t409.length co12)) (fun _ hk => hk.2) (.int .i64 a0_0)) (fun _ hk => hk.2) (.int .i64 a0_1)) (fun _ hk => hk.2) (.int .i64 a0_2)) (fun _ hk => hk.2) (.slice Ao12 t409.length co12)) (fun _ hk => trivial), bW⟩
/-! ### impl_length_int64_123: function 123 -/
def impl_length_int64_123.f (l0 : List (List Int)) : Option (Int) := some (l0.length : Int)
set_option maxHeartbeats 8000000 in
set_option maxRecDepth 100000 in
theorem impl_length_int64_123.calls (A0 : Option Addr) (c0 : Nat) (l0 : List (List Int)) (r : Int) (w : World) (hr0 : Kd.C (Kd.slice 2 (Kd.int .i64)) w A0 l0.length l0) (hc0 : l0.length ≤ c0) (h : impl_length_int64_123.f l0 = some r) :
  Calls Tryd.prog 123 #[.slice A0 l0.length c0] w fun e w' => e = .returned (.int .i64 r) ∧ Drawn0 w w' := by
 have HR0 := Aside0.mk hr0
 have HC0 := Aside0.mk hc0
 clear hr0 hc0
 have H : (some (l0.length : Int)) = some r := h
 clear h
 obtain rfl := Option.some.inj H
 go_enter Tryd.func123, Tryd.ntmps123
 go_wp2
 go_ret
 exact ⟨eW, by repeat (first | exact Drawn0.refl _ | apply Drawn0.step)⟩
/-! ### impl_IsMask: function 153 -/
def impl_IsMask.f (a0 : Int) (a1 : Int) : Option (Bool) := (impl_inRange.f a1 0 24).bind fun t412 => (if t412 = true then ((impl_one.f a1).bind fun t413 => ((impl_inRange.f a0 0 (wrap64 (t413 - 1))).bind fun t414 => (some t414))) else (some false))
set_option maxHeartbeats 8000000 in
set_option maxRecDepth 100000 in
theorem impl_IsMask.calls (a0 : Int) (a1 : Int) (r : Bool) (w : World) (h : impl_IsMask.f a0 a1 = some r) :
  Calls Tryd.prog 153 #[.int .i64 a0, .int .i64 a1] w fun e w' => e = .returned (.bool r) ∧ Drawn0 w w' := by
 have H : ((impl_inRange.f a1 0 24).bind fun t412 => (if t412 = true then ((impl_one.f a1).bind fun t413 => ((impl_inRange.f a0 0 (wrap64 (t413 - 1))).bind fun t414 => (some t414))) else (some false))) = some r := h
 clear h
 replace H := Option.bind_eq_some_iff.mp H
 obtain ⟨t412, A30, H⟩ := H
 replace H : (if t412 = true then ((impl_one.f a1).bind fun t413 => ((impl_inRange.f a0 0 (wrap64 (t413 - 1))).bind fun t414 => (some t414))) else (some false)) = some r := H
 have A3 := Aside0.mk A30
 clear A30
 by_cases c4 : t412 = true
 ·subst c4
  have H1 : ((impl_one.f a1).bind fun t413 => ((impl_inRange.f a0 0 (wrap64 (t413 - 1))).bind fun t414 => (some t414))) = some r := by rw [if_pos rfl] at H; exact H
  clear H
  have H := H1
  clear H1
  replace H := Option.bind_eq_some_iff.mp H
  obtain ⟨t413, A50, H⟩ := H
  replace H : ((impl_inRange.f a0 0 (wrap64 (t413 - 1))).bind fun t414 => (some t414)) = some r := H
  have A5 := Aside0.mk A50
  clear A50
  replace H := Option.bind_eq_some_iff.mp H
  obtain ⟨t414, A60, H⟩ := H
  replace H : (some t414) = some r := H
  have A6 := Aside0.mk A60
  clear A60
  obtain rfl := Option.some.inj H
  go_enter Tryd.func153, Tryd.ntmps153
  go_wp2_with (first | ((with_reducible refine gate_callee (f := 109) rfl ?_); refine goesS (some 6) Tryd.func109 #[.int .i64 a1, .int .i64 0, .int .i64 24] ?_; (with_reducible refine (impl_inRange.calls a1 0 24 true _ A3.out).mono ?_); rintro e w' ⟨rfl, ⟨nd, rfl⟩⟩; refine ⟨_, rfl, ?_⟩) | (go_at_call 129; (with_reducible refine (impl_one.calls a1 t413 _ A5.out).mono ?_); rintro e w' ⟨rfl, ⟨nd, rfl⟩⟩) | (go_at_call 109; (with_reducible refine (impl_inRange.calls a0 0 (wrap64 (t413 - 1)) t414 _ A6.out).mono ?_); rintro e w' ⟨rfl, ⟨nd, rfl⟩⟩))
  go_ret
  exact ⟨eW, by repeat (first | exact Drawn0.refl _ | apply Drawn0.step)⟩
 ·replace c4 := Bool.eq_false_iff.mpr c4
  subst c4
  have H1 : (some false) = some r := by rw [if_neg (show ¬ (false = true) by decide)] at H; exact H
  clear H
  have H := H1
  clear H1
  obtain rfl := Option.some.inj H
  go_enter Tryd.func153, Tryd.ntmps153
  go_wp2_with (first | ((with_reducible refine gate_callee (f := 109) rfl ?_); refine goesS (some 6) Tryd.func109 #[.int .i64 a1, .int .i64 0, .int .i64 24] ?_; (with_reducible refine (impl_inRange.calls a1 0 24 false _ A3.out).mono ?_); rintro e w' ⟨rfl, ⟨nd, rfl⟩⟩; refine ⟨_, rfl, ?_⟩))
  go_ret
  exact ⟨eW, by repeat (first | exact Drawn0.refl _ | apply Drawn0.step)⟩
/-! ### impl_IsAutomaton: function 121 -/
theorem rdL_get {l : List (List Int)} {k : Nat} (hk : k < l.length) : rd_L1 l (k : Int) = l[k] := by
  unfold rd_L1; rw [List.getD_eq_getElem?_getD, Int.toNat_natCast, List.getElem?_eq_getElem hk]; rfl
set_option maxHeartbeats 2000000 in
theorem idxL (g : Nat) (lb : Array Value) (eg : ∀ args w, (callFunc g args).run Tryd.prog w = .ok (.enter g args) w) (p : List Int → Bool) (A : Option Addr) (c : Nat) (l : List (List Int)) (w : World) (hr : Kd.C (Kd.slice 2 (Kd.int .i64)) w A l.length l)
    (hp : ∀ (W : World) (x : List Int) (A' : Option Addr) (c' : Nat), x ∈ l → Below w.heap.size w W → Kd.C (Kd.int .i64) W A' x.length x → x.length ≤ c' → Calls Tryd.prog g (#[.slice A' x.length c'] ++ lb) W fun e w' => e = .returned (.bool (p x)) ∧ Below W.heap.size W w') :
    Calls Tryd.prog 166 #[.slice A l.length c, .func (.func g) #[] lb] w fun e w' => e = .returned (.int .i64 (fidx p l)) ∧ Below w.heap.size w w' := by
  have HR := Aside0.mk hr
  have hlen : l.length ≤ 9223372036854775807 := hr.2.1
  clear hr
  have HP := Aside0.mk hp
  clear hp
  go_enter Tryd.func166, Tryd.ntmps166
  go_wp2
  go_loopg [5, 8] l.length (fun gg _ s8 wr => ∃ kk : Nat, kk ≤ l.length ∧ l.length - kk ≤ gg ∧ s8 = .int .i64 kk ∧ Aside0 (Below w.heap.size w wr) ∧ Aside0 (∀ j (hj : j < kk) (hl : j < l.length), p l[j] = false))
  case atStart => exact ⟨0, Nat.zero_le _, by omega, rfl, ⟨Below.refl _ w⟩, ⟨fun j hj => absurd hj (Nat.not_lt_zero _)⟩⟩
  case round =>
    obtain ⟨kk, hkk, hg, rfl, BW, AS⟩ := hrel
    by_cases hlt : kk < l.length
    · have hltz : (kk : Int) < (l.length : Int) := by omega
      have hk0 : 0 ≤ (kk : Int) := by omega
      obtain ⟨ad, A', c', e, hx, hlc, hin⟩ := at_L1 HR.out (kk : Int) hk0 hltz
      cases e
      replace hx := (BW.out.cell (World.block_lt_of_cell? w _ hx)).trans hx
      rw [rdL_get hlt] at hx hlc hin
      rw [Int.toNat_natCast] at hx
      have hcall := HP.out wr l[kk] A' c' (List.getElem_mem hlt) BW.out (Kd.C_below hin BW.out) hlc
      clear hlc hin
      cases hq : p l[kk] with
      | true =>
        rw [hq] at hcall
        have HQ := Aside0.mk hq
        clear hq
        generalize hy : l[kk] = y at hx hcall
        clear hy
        go_wp2_with (go_at_fn g; refine hcall.mono ?_; rintro e w' ⟨rfl, hb'⟩)
        go_ret
        exact ⟨by rw [fidx_hit hlt HQ.out (fun j hj => AS.out j hj _)]; rfl, below_step BW.out hb'⟩
      | false =>
        rw [hq] at hcall
        have HQ := Aside0.mk hq
        clear hq
        generalize hy : l[kk] = y at hx hcall
        clear hy
        go_wp2_with (go_at_fn g; refine hcall.mono ?_; rintro e w' ⟨rfl, hb'⟩)
        go_roundg (l.length - (kk + 1))
        case measure => omega
        case rel =>
          refine ⟨kk + 1, by omega, by omega, by go_num, ⟨below_step BW.out hb'⟩, ⟨fun j hj hl => ?_⟩⟩
          by_cases e : j = kk
          · subst e
            exact HQ.out
          · exact AS.out j (by omega) hl
    · have hltz : ¬ (kk : Int) < (l.length : Int) := by omega
      have hke : kk = l.length := by omega
      have HKE := Aside0.mk hke
      clear hke
      go_wp2
      go_ret
      exact ⟨by rw [fidx_miss (fun j hj => AS.out j (by have := HKE.out; omega) hj)]; rfl, BW.out⟩
set_option maxHeartbeats 2000000 in
theorem conL (g : Nat) (lb : Array Value) (eg : ∀ args w, (callFunc g args).run Tryd.prog w = .ok (.enter g args) w) (p : List Int → Bool) (A : Option Addr) (c : Nat) (l : List (List Int)) (w : World) (hr : Kd.C (Kd.slice 2 (Kd.int .i64)) w A l.length l)
    (hp : ∀ (W : World) (x : List Int) (A' : Option Addr) (c' : Nat), x ∈ l → Below w.heap.size w W → Kd.C (Kd.int .i64) W A' x.length x → x.length ≤ c' → Calls Tryd.prog g (#[.slice A' x.length c'] ++ lb) W fun e w' => e = .returned (.bool (p x)) ∧ Below W.heap.size W w') :
    Calls Tryd.prog 154 #[.slice A l.length c, .func (.func g) #[] lb] w fun e w' => e = .returned (.bool (l.any p)) ∧ Below w.heap.size w w' := by
  have HI := Aside0.mk (fun w0 (h0 : w0 = w) => h0 ▸ idxL g lb eg p A c l w hr hp)
  rw [← fidx_nonneg]
  clear hr hp
  go_enter Tryd.func154, Tryd.ntmps154
  go_wp2_with (go_at_call 166; refine (HI.out _ rfl).mono ?_; rintro e w' ⟨rfl, hb'⟩)
  go_ret
  exact ⟨rfl, hb'⟩
def badRow (L n : Int) (x : List Int) : Bool := !(decide ((x.length : Int) = L)) || !(x.all fun t => decide (-1 ≤ t) && decide (t ≤ n - 1))
set_option maxHeartbeats 2000000 in
theorem IsAutomaton_1 (L n : Int) (hn : 0 ≤ n ∧ n ≤ 9223372036854775807) (b1 b2 : Nat) (A : Option Addr) (c : Nat) (x : List Int) (w : World) (hr : Kd.C (Kd.int .i64) w A x.length x) (hc : x.length ≤ c) (h1 : w.cell? ⟨b1, 0, none⟩ = some (.int .i64 L)) (h2 : w.cell? ⟨b2, 0, none⟩ = some (.int .i64 n)) :
    Calls Tryd.prog 155 #[.slice A x.length c, .pointer (some ⟨b1, 0, none⟩), .pointer (some ⟨b2, 0, none⟩)] w fun e w' => e = .returned (.bool (badRow L n x)) ∧ Below w.heap.size w w' := by
  have HR := Aside0.mk hr
  have HC := Aside0.mk hc
  have hlen : x.length ≤ 9223372036854775807 := hr.2.1
  have hf : ∀ r, (x.all fun t => decide (-1 ≤ t) && decide (t ≤ n - 1)) = r → impl_allIn.f x (-1) (n - 1) = some r := fun r h => by unfold impl_allIn.f; rw [h]
  have HF := Aside0.mk hf
  have hlf : impl_length_int64_80.f x = some (x.length : Int) := rfl
  have HLF := Aside0.mk hlf
  clear hr hc hf hlf
  obtain ⟨hn0, hn1⟩ := hn
  by_cases hL : (x.length : Int) = L
  · have hb : badRow L n x = !(x.all fun t => decide (-1 ≤ t) && decide (t ≤ n - 1)) := by unfold badRow; simp [hL]
    rw [hb]
    clear hb
    generalize (x.all fun t => decide (-1 ≤ t) && decide (t ≤ n - 1)) = r at HF ⊢
    have hne : ((x.length : Int) != L) = false := by simp [hL]
    have HL := Aside0.mk hL
    clear hL
    have hA := fun W => impl_allIn.calls A c x (-1) (n - 1) r W
    have hA' := fun W (hb : Below w.heap.size w W) => hA W (Kd.C_below HR.out hb) HC.out (HF.out _ rfl)
    clear hA
    have hlA := World.block_lt_of_cell? w _ h1
    have hlB := World.block_lt_of_cell? w _ h2
    have hwr : IntKind.i64.wrap (n - 1) = n - 1 := IntWalk.i64_in _ (by omega)
    go_enter Tryd.func155, Tryd.ntmps155
    go_wp2
    go_region_held3 (fun w' => w'.cell? ⟨b1, 0, none⟩ = some (.int .i64 L) ∧ w'.cell? ⟨b2, 0, none⟩ = some (.int .i64 n)) (go_keep)
      (first | (go_at_call 80; refine Calls.mono (impl_length_int64_80.calls A c x _ _ (by repeat (first | (with_reducible refine Kd.C_drewN ?_ _) | (with_reducible refine Kd.C_drew ?_) | exact HR.out)) HC.out HLF.out) ?_; rintro e w' ⟨rfl, ⟨m, rfl⟩⟩) | (go_at_call 81; refine Calls.mono (hA' _ (by repeat (first | apply pw_below_drewN | apply below_drew1 | exact Below.refl _ _))) ?_; rintro e w1 ⟨rfl, hb1⟩; have k1 := (hb1.cell (p := ⟨b1, 0, none⟩) (by simpa using hlA)).trans (by simpa using h1); have k2 := (hb1.cell (p := ⟨b2, 0, none⟩) (by simpa using hlB)).trans (by simpa using h2)))
    go_wp2
    go_ret
    exact ⟨by simp, below_step (pw_below_drewN (Below.refl _ w) _) hb1⟩
  · have hb : badRow L n x = true := by unfold badRow; simp [hL]
    rw [hb]
    clear hb
    have hne : ((x.length : Int) != L) = true := by simpa using hL
    have HL := Aside0.mk hL
    clear hL
    go_enter Tryd.func155, Tryd.ntmps155
    go_wp2
    go_quiet ((go_at_call 80; refine Calls.mono (impl_length_int64_80.calls A c x _ _ (by repeat (first | (with_reducible refine Kd.C_drewN ?_ _) | (with_reducible refine Kd.C_drew ?_) | exact HR.out)) HC.out HLF.out) ?_; rintro e w' ⟨rfl, ⟨nd, rfl⟩⟩; (try first | exact ⟨rfl, _, World.drewN_drewN _ _ _⟩ | exact ⟨rfl, _, Eq.trans (World.drewN_drewN _ _ _) (congrArg (World.drewN _) (Nat.add_assoc _ _ _))⟩)))
    go_wp2
    go_ret
    exact ⟨rfl, by repeat (first | apply pw_below_drewN | apply below_drew1 | exact Below.refl _ _)⟩
def inRB (n lo hi : Int) : Bool := decide (lo ≤ n) && decide (n ≤ hi)
theorem inRange_some (n lo hi : Int) : impl_inRange.f n lo hi = some (inRB n lo hi) := by
  unfold impl_inRange.f inRB
  by_cases h : lo ≤ n <;> simp [h]
theorem inRange_any (n lo hi : Int) (w : World) : Calls Tryd.prog 109 #[.int .i64 n, .int .i64 lo, .int .i64 hi] w fun e w' => e = .returned (.bool (inRB n lo hi)) ∧ Drawn0 w w' :=
  impl_inRange.calls n lo hi _ w (inRange_some n lo hi)
def maskB (F n : Int) : Bool := (impl_IsMask.f F n).getD false
theorem isMask_some (F n : Int) : impl_IsMask.f F n = some (maskB F n) := by
  unfold maskB impl_IsMask.f
  rw [inRange_some]
  simp only [Option.bind_some]
  split
  · rename_i h
    unfold inRB at h
    simp only [Bool.and_eq_true, decide_eq_true_eq] at h
    unfold impl_one.f
    rw [if_pos h.1]
    simp only [Option.bind_some]
    rw [inRange_some]
    rfl
  · rfl
theorem isMask_any (F n : Int) (w : World) : Calls Tryd.prog 153 #[.int .i64 F, .int .i64 n] w fun e w' => e = .returned (.bool (maskB F n)) ∧ Drawn0 w w' :=
  impl_IsMask.calls F n _ w (isMask_some F n)
def isAut (L S F : Int) (N : List (List Int)) : Bool :=
  inRB L 0 8 && (inRB N.length 1 16 && (inRB S 0 ((N.length : Int) - 1) && (maskB F N.length && !(N.any (badRow L N.length)))))
def impl_IsAutomaton.f (a0_0 : Int) (a0_1 : Int) (a0_2 : Int) (l0_3 : List (List Int)) : Option Bool := some (isAut a0_0 a0_1 a0_2 l0_3)
set_option maxHeartbeats 4000000 in
theorem impl_IsAutomaton.calls (a0_0 : Int) (a0_1 : Int) (a0_2 : Int) (A0_3 : Option Addr) (c0_3 : Nat) (l0_3 : List (List Int)) (r : Bool) (w : World) (hr0_3 : Kd.C (Kd.slice 2 (Kd.int .i64)) w A0_3 l0_3.length l0_3) (hc0_3 : l0_3.length ≤ c0_3) (h : impl_IsAutomaton.f a0_0 a0_1 a0_2 l0_3 = some r) :
    Calls Tryd.prog 121 #[.agg #[.int .i64 a0_0, .int .i64 a0_1, .int .i64 a0_2, .slice A0_3 l0_3.length c0_3]] w fun e w' => e = .returned (.bool r) ∧ Below w.heap.size w w' := by
  have hlen : l0_3.length ≤ 9223372036854775807 := hr0_3.2.1
  have HR := Aside0.mk hr0_3
  have HCp := Aside0.mk hc0_3
  clear hr0_3 hc0_3
  have hrr : isAut a0_0 a0_1 a0_2 l0_3 = r := Option.some.inj h
  clear h
  unfold isAut at hrr
  have HLF := Aside0.mk (show impl_length_int64_123.f l0_3 = some (l0_3.length : Int) from rfl)
  have hwr : IntKind.i64.wrap ((l0_3.length : Int) - 1) = (l0_3.length : Int) - 1 := IntWalk.i64_in _ (by omega)
  have HCN := fun W A (hA : Kd.C (Kd.slice 2 (Kd.int .i64)) W A l0_3.length l0_3) (b1 b2 : Nat) (h1 : W.cell? ⟨b1, 0, none⟩ = some (.int .i64 a0_0)) (h2 : W.cell? ⟨b2, 0, none⟩ = some (.int .i64 l0_3.length)) (hb1 : b1 < W.heap.size) (hb2 : b2 < W.heap.size) =>
    conL 155 #[.pointer (some ⟨b1, 0, none⟩), .pointer (some ⟨b2, 0, none⟩)] (enters_of Tryd.func155 (by kernel_rfl) rfl) (badRow a0_0 l0_3.length) A c0_3 l0_3 W hA
      (fun W' x A' c' _ hb hC hc => IsAutomaton_1 a0_0 l0_3.length ⟨by omega, by omega⟩ b1 b2 A' c' x W' hC hc ((hb.cell (p := ⟨b1, 0, none⟩) hb1).trans h1) ((hb.cell (p := ⟨b2, 0, none⟩) hb2).trans h2))
  generalize hq5 : l0_3.any (badRow a0_0 l0_3.length) = q5 at HCN hrr
  clear hq5
  cases hq1 : inRB a0_0 0 8
  · rw [hq1, Bool.false_and] at hrr
    subst hrr
    clear HCN
    go_enter Tryd.func121, Tryd.ntmps121
    go_wp2_with (first | (go_at_call 123; refine Calls.mono (impl_length_int64_123.calls A0_3 c0_3 l0_3 _ _ (by repeat (first | (with_reducible refine Kd.C_drewN ?_ _) | (with_reducible refine Kd.C_drew ?_) | (with_reducible refine Kd.C_alloc ?_ _) | exact HR.out)) HCp.out HLF.out) ?_; rintro e w' ⟨rfl, ⟨nd, rfl⟩⟩) | (go_at_call 109; refine Calls.mono (inRange_any _ _ _ _) ?_; rintro e w' ⟨rfl, ⟨nd2, rfl⟩⟩) | (go_at_call 153; refine Calls.mono (isMask_any _ _ _) ?_; rintro e w' ⟨rfl, ⟨nd3, rfl⟩⟩))
    go_ret
    exact ⟨rfl, by repeat (first | apply below_alloc | apply pw_below_drewN | apply below_drew1 | exact Below.refl _ _)⟩
  rw [hq1, Bool.true_and] at hrr
  cases hq2 : inRB l0_3.length 1 16
  · rw [hq2, Bool.false_and] at hrr
    subst hrr
    clear HCN
    go_enter Tryd.func121, Tryd.ntmps121
    go_wp2_with (first | (go_at_call 123; refine Calls.mono (impl_length_int64_123.calls A0_3 c0_3 l0_3 _ _ (by repeat (first | (with_reducible refine Kd.C_drewN ?_ _) | (with_reducible refine Kd.C_drew ?_) | (with_reducible refine Kd.C_alloc ?_ _) | exact HR.out)) HCp.out HLF.out) ?_; rintro e w' ⟨rfl, ⟨nd, rfl⟩⟩) | (go_at_call 109; refine Calls.mono (inRange_any _ _ _ _) ?_; rintro e w' ⟨rfl, ⟨nd2, rfl⟩⟩) | (go_at_call 153; refine Calls.mono (isMask_any _ _ _) ?_; rintro e w' ⟨rfl, ⟨nd3, rfl⟩⟩))
    go_ret
    exact ⟨rfl, by repeat (first | apply below_alloc | apply pw_below_drewN | apply below_drew1 | exact Below.refl _ _)⟩
  rw [hq2, Bool.true_and] at hrr
  cases hq3 : inRB a0_1 0 ((l0_3.length : Int) - 1)
  · rw [hq3, Bool.false_and] at hrr
    subst hrr
    clear HCN
    go_enter Tryd.func121, Tryd.ntmps121
    go_wp2_with (first | (go_at_call 123; refine Calls.mono (impl_length_int64_123.calls A0_3 c0_3 l0_3 _ _ (by repeat (first | (with_reducible refine Kd.C_drewN ?_ _) | (with_reducible refine Kd.C_drew ?_) | (with_reducible refine Kd.C_alloc ?_ _) | exact HR.out)) HCp.out HLF.out) ?_; rintro e w' ⟨rfl, ⟨nd, rfl⟩⟩) | (go_at_call 109; refine Calls.mono (inRange_any _ _ _ _) ?_; rintro e w' ⟨rfl, ⟨nd2, rfl⟩⟩) | (go_at_call 153; refine Calls.mono (isMask_any _ _ _) ?_; rintro e w' ⟨rfl, ⟨nd3, rfl⟩⟩))
    go_ret
    exact ⟨rfl, by repeat (first | apply below_alloc | apply pw_below_drewN | apply below_drew1 | exact Below.refl _ _)⟩
  rw [hq3, Bool.true_and] at hrr
  cases hq4 : maskB a0_2 l0_3.length
  · rw [hq4, Bool.false_and] at hrr
    subst hrr
    clear HCN
    go_enter Tryd.func121, Tryd.ntmps121
    go_wp2_with (first | (go_at_call 123; refine Calls.mono (impl_length_int64_123.calls A0_3 c0_3 l0_3 _ _ (by repeat (first | (with_reducible refine Kd.C_drewN ?_ _) | (with_reducible refine Kd.C_drew ?_) | (with_reducible refine Kd.C_alloc ?_ _) | exact HR.out)) HCp.out HLF.out) ?_; rintro e w' ⟨rfl, ⟨nd, rfl⟩⟩) | (go_at_call 109; refine Calls.mono (inRange_any _ _ _ _) ?_; rintro e w' ⟨rfl, ⟨nd2, rfl⟩⟩) | (go_at_call 153; refine Calls.mono (isMask_any _ _ _) ?_; rintro e w' ⟨rfl, ⟨nd3, rfl⟩⟩))
    go_ret
    exact ⟨rfl, by repeat (first | apply below_alloc | apply pw_below_drewN | apply below_drew1 | exact Below.refl _ _)⟩
  rw [hq4, Bool.true_and] at hrr
  subst hrr
  go_enter Tryd.func121, Tryd.ntmps121
  go_wp2_with (first | (go_at_call 123; refine Calls.mono (impl_length_int64_123.calls A0_3 c0_3 l0_3 _ _ (by repeat (first | (with_reducible refine Kd.C_drewN ?_ _) | (with_reducible refine Kd.C_drew ?_) | (with_reducible refine Kd.C_alloc ?_ _) | exact HR.out)) HCp.out HLF.out) ?_; rintro e w' ⟨rfl, ⟨nd, rfl⟩⟩) | (go_at_call 109; refine Calls.mono (inRange_any _ _ _ _) ?_; rintro e w' ⟨rfl, ⟨nd2, rfl⟩⟩) | (go_at_call 153; refine Calls.mono (isMask_any _ _ _) ?_; rintro e w' ⟨rfl, ⟨nd3, rfl⟩⟩))
  refine Calls.mono (HCN _ A0_3 (by repeat (first | (with_reducible refine Kd.C_drewN ?_ _) | (with_reducible refine Kd.C_drew ?_) | (with_reducible refine Kd.C_alloc ?_ _) | exact HR.out)) w.heap.size (w.heap.size + 1) (by go_simp) (by go_simp) (by simp; omega) (by simp)) ?_
  rintro e w' ⟨rfl, hb⟩
  go_wp2
  go_ret
  exact ⟨by simp, below_step (by repeat (first | apply below_alloc | apply pw_below_drewN | apply below_drew1 | exact Below.refl _ _)) hb⟩
/-! ### impl_checkOver: function 68 -/
theorem rdM_get {l : List S48} {k : Nat} (hk : k < l.length) : rd_T48 l (k : Int) = l[k] := by
  unfold rd_T48; rw [List.getD_eq_getElem?_getD, Int.toNat_natCast, List.getElem?_eq_getElem hk]; rfl
set_option maxHeartbeats 4000000 in
theorem idxM (g : Nat) (lb : Array Value) (eg : ∀ args w, (callFunc g args).run Tryd.prog w = .ok (.enter g args) w) (p : S48 → Bool) (A : Option Addr) (c : Nat) (l : List S48) (w : World) (hr : Kd.C k48 w A l.length l)
    (hp : ∀ (W : World) (x : S48) (A' : Option Addr) (c' : Nat), x ∈ l → Below w.heap.size w W → Kd.C (Kd.slice 2 (Kd.int .i64)) W A' x.f3.length x.f3 → x.f3.length ≤ c' → Calls Tryd.prog g (#[.agg #[.int .i64 x.f0, .int .i64 x.f1, .int .i64 x.f2, .slice A' x.f3.length c']] ++ lb) W fun e w' => e = .returned (.bool (p x)) ∧ Below W.heap.size W w') :
    Calls Tryd.prog 152 #[.slice A l.length c, .func (.func g) #[] lb] w fun e w' => e = .returned (.int .i64 (fidx p l)) ∧ Below w.heap.size w w' := by
  have hu := Tryd.underlying48
  have HR := Aside0.mk hr
  have hlen : l.length ≤ 9223372036854775807 := hr.2.1
  clear hr
  have HP := Aside0.mk hp
  clear hp
  go_enter Tryd.func152, Tryd.ntmps152
  go_wp2
  go_loopg [5, 8] l.length (fun gg _ s8 wr => ∃ kk : Nat, kk ≤ l.length ∧ l.length - kk ≤ gg ∧ s8 = .int .i64 kk ∧ Aside0 (Below w.heap.size w wr) ∧ Aside0 (∀ j (hj : j < kk) (hl : j < l.length), p l[j] = false))
  case atStart => exact ⟨0, Nat.zero_le _, by omega, rfl, ⟨Below.refl _ w⟩, ⟨fun j hj => absurd hj (Nat.not_lt_zero _)⟩⟩
  case round =>
    obtain ⟨kk, hkk, hg, rfl, BW, AS⟩ := hrel
    by_cases hlt : kk < l.length
    · have hltz : (kk : Int) < (l.length : Int) := by omega
      have hk0 : 0 ≤ (kk : Int) := by omega
      obtain ⟨ad, A', c', e, hx, hx1, hx2, hx3, hlc, hin⟩ := at_T48 HR.out (kk : Int) hk0 hltz
      cases e
      replace hx := (BW.out.cell (World.block_lt_of_cell? w _ hx)).trans hx
      replace hx1 := (BW.out.cell (World.block_lt_of_cell? w _ hx1)).trans hx1
      replace hx2 := (BW.out.cell (World.block_lt_of_cell? w _ hx2)).trans hx2
      replace hx3 := (BW.out.cell (World.block_lt_of_cell? w _ hx3)).trans hx3
      rw [rdM_get hlt] at hx hx1 hx2 hx3 hlc hin
      rw [Int.toNat_natCast] at hx hx1 hx2 hx3
      have hcall := HP.out wr l[kk] A' c' (List.getElem_mem hlt) BW.out (Kd.C_below hin BW.out) hlc
      clear hlc hin
      cases hq : p l[kk] with
      | true =>
        rw [hq] at hcall
        have HQ := Aside0.mk hq
        clear hq
        generalize hy : l[kk] = y at hx hx1 hx2 hx3 hcall
        clear hy
        go_wp2_with (go_at_fn g; refine hcall.mono ?_; rintro e w' ⟨rfl, hb'⟩)
        go_ret
        exact ⟨by rw [fidx_hit hlt HQ.out (fun j hj => AS.out j hj _)]; rfl, below_step BW.out hb'⟩
      | false =>
        rw [hq] at hcall
        have HQ := Aside0.mk hq
        clear hq
        generalize hy : l[kk] = y at hx hx1 hx2 hx3 hcall
        clear hy
        go_wp2_with (go_at_fn g; refine hcall.mono ?_; rintro e w' ⟨rfl, hb'⟩)
        go_roundg (l.length - (kk + 1))
        case measure => omega
        case rel =>
          refine ⟨kk + 1, by omega, by omega, by go_num, ⟨below_step BW.out hb'⟩, ⟨fun j hj hl => ?_⟩⟩
          by_cases e : j = kk
          · subst e
            exact HQ.out
          · exact AS.out j (by omega) hl
    · have hltz : ¬ (kk : Int) < (l.length : Int) := by omega
      have hke : kk = l.length := by omega
      have HKE := Aside0.mk hke
      clear hke
      go_wp2
      go_ret
      exact ⟨by rw [fidx_miss (fun j hj => AS.out j (by have := HKE.out; omega) hj)]; rfl, BW.out⟩
set_option maxHeartbeats 2000000 in
theorem conM (g : Nat) (lb : Array Value) (eg : ∀ args w, (callFunc g args).run Tryd.prog w = .ok (.enter g args) w) (p : S48 → Bool) (A : Option Addr) (c : Nat) (l : List S48) (w : World) (hr : Kd.C k48 w A l.length l)
    (hp : ∀ (W : World) (x : S48) (A' : Option Addr) (c' : Nat), x ∈ l → Below w.heap.size w W → Kd.C (Kd.slice 2 (Kd.int .i64)) W A' x.f3.length x.f3 → x.f3.length ≤ c' → Calls Tryd.prog g (#[.agg #[.int .i64 x.f0, .int .i64 x.f1, .int .i64 x.f2, .slice A' x.f3.length c']] ++ lb) W fun e w' => e = .returned (.bool (p x)) ∧ Below W.heap.size W w') :
    Calls Tryd.prog 119 #[.slice A l.length c, .func (.func g) #[] lb] w fun e w' => e = .returned (.bool (l.any p)) ∧ Below w.heap.size w w' := by
  have HI := Aside0.mk (fun w0 (h0 : w0 = w) => h0 ▸ idxM g lb eg p A c l w hr hp)
  rw [← fidx_nonneg]
  clear hr hp
  go_enter Tryd.func119, Tryd.ntmps119
  go_wp2_with (go_at_call 152; refine (HI.out _ rfl).mono ?_; rintro e w' ⟨rfl, hb'⟩)
  go_ret
  exact ⟨rfl, hb'⟩
set_option maxHeartbeats 2000000 in
theorem over_1 (x : S48) (A : Option Addr) (c : Nat) (w : World) (hr : Kd.C (Kd.slice 2 (Kd.int .i64)) w A x.f3.length x.f3) (hc : x.f3.length ≤ c) :
    Calls Tryd.prog 120 #[.agg #[.int .i64 x.f0, .int .i64 x.f1, .int .i64 x.f2, .slice A x.f3.length c]] w fun e w' => e = .returned (.bool (!isAut x.f0 x.f1 x.f2 x.f3)) ∧ Below w.heap.size w w' := by
  have hu := Tryd.underlying48
  have HA := Aside0.mk (fun W (hb : Below w.heap.size w W) => impl_IsAutomaton.calls x.f0 x.f1 x.f2 A c x.f3 _ W (Kd.C_below hr hb) hc rfl)
  clear hr hc
  generalize isAut x.f0 x.f1 x.f2 x.f3 = b at HA ⊢
  go_enter Tryd.func120, Tryd.ntmps120
  go_wp2_with (go_at_call 121; refine (HA.out _ (by repeat (first | apply below_alloc | apply pw_below_drewN | apply below_drew1 | exact Below.refl _ _))).mono ?_; rintro e w' ⟨rfl, hb'⟩)
  go_ret
  exact ⟨rfl, below_step (by repeat (first | apply below_alloc | apply pw_below_drewN | apply below_drew1 | exact Below.refl _ _)) hb'⟩
set_option maxHeartbeats 2000000 in
theorem over_2 (L : Int) (b1 : Nat) (x : S48) (A : Option Addr) (c : Nat) (w : World) (h1 : w.cell? ⟨b1, 0, none⟩ = some (.int .i64 L)) (hb1 : b1 < w.heap.size) :
    Calls Tryd.prog 122 #[.agg #[.int .i64 x.f0, .int .i64 x.f1, .int .i64 x.f2, .slice A x.f3.length c], .pointer (some ⟨b1, 0, none⟩)] w fun e w' => e = .returned (.bool (x.f0 != L)) ∧ Below w.heap.size w w' := by
  have hu := Tryd.underlying48
  have hu2 := Tryd.underlying29
  have hne : b1 ≠ w.heap.size := by omega
  go_enter Tryd.func122, Tryd.ntmps122
  go_wp2
  go_ret
  exact ⟨rfl, by repeat (first | apply below_alloc | apply pw_below_drewN | apply below_drew1 | exact Below.refl _ _)⟩
def impl_checkOver.f (k : Nat) (a0_0 : Int) (l0_1 : List Int) (l1 : List (S48)) : Option Int := (impl_IsAlphabet.f k a0_0 l0_1).bind fun b => some (if b then (if l1.any (fun m => !isAut m.f0 m.f1 m.f2 m.f3) then 1 else if l1.any (fun m => m.f0 != a0_0) then 2 else 0) else 1)
set_option maxHeartbeats 4000000 in
set_option maxRecDepth 100000 in
theorem impl_checkOver.calls (k : Nat) (a0_0 : Int) (A0_1 : Option Addr) (c0_1 : Nat) (l0_1 : List Int) (A1 : Option Addr) (c1 : Nat) (l1 : List (S48)) (r : Int) (w : World) (hr0_1 : Kd.C (Kd.int .i64) w A0_1 l0_1.length l0_1) (hc0_1 : l0_1.length ≤ c0_1) (hr1 : Kd.C k48 w A1 l1.length l1) (hc1 : l1.length ≤ c1) (h : impl_checkOver.f k a0_0 l0_1 l1 = some r) (hTab : Tab w) :
    Calls Tryd.prog 68 #[.agg #[.int .i64 a0_0, .slice A0_1 l0_1.length c0_1], .slice A1 l1.length c1] w fun e w' => e = .returned (.int .i64 r) ∧ Below w.heap.size w w' := by
  have hu2 := Tryd.underlying29
  unfold impl_checkOver.f at h
  obtain ⟨b, hb, h1⟩ := Option.bind_eq_some_iff.mp h
  clear h
  have h := Option.some.inj h1
  clear h1
  have HB := Aside0.mk (Below.refl w.heap.size w)
  have HA := Aside0.mk (fun W (hw : Below w.heap.size w W) => impl_IsAlphabet.calls k a0_0 A0_1 c0_1 l0_1 b W (Kd.C_below hr0_1 hw) hc0_1 hb (Tab.below hw hTab))
  have H1 := Aside0.mk (fun W (hw : Below w.heap.size w W) => conM 120 #[] (enters_of Tryd.func120 (by kernel_rfl) rfl) (fun m => !isAut m.f0 m.f1 m.f2 m.f3) A1 c1 l1 W (Kd.C_below hr1 hw)
      (fun W' x A' c' _ _ hC hc => over_1 x A' c' W' hC hc))
  have H2 := Aside0.mk (fun W (hw : Below w.heap.size w W) (b1 : Nat) (h1 : W.cell? ⟨b1, 0, none⟩ = some (.int .i64 a0_0)) (hb1 : b1 < W.heap.size) => conM 122 #[.pointer (some ⟨b1, 0, none⟩)] (enters_of Tryd.func122 (by kernel_rfl) rfl) (fun m => m.f0 != a0_0) A1 c1 l1 W (Kd.C_below hr1 hw)
      (fun W' x A' c' _ hb' _ _ => over_2 a0_0 b1 x A' c' W' ((hb'.cell (p := ⟨b1, 0, none⟩) hb1).trans h1) (Nat.lt_of_lt_of_le hb1 hb'.size)))
  generalize l1.any (fun m => !isAut m.f0 m.f1 m.f2 m.f3) = q1 at H1 h
  generalize l1.any (fun m => m.f0 != a0_0) = q2 at H2 h
  clear hr0_1 hc0_1 hr1 hb hTab
  cases b
  · simp only [Bool.false_eq_true, if_false] at h
    subst h
    clear H1 H2
    go_enter Tryd.func68, Tryd.ntmps68
    go_wp2_with (go_at_call 58; refine (HA.out _ bW).mono ?_; rintro e w1 ⟨rfl, hb1⟩)
    go_ret
    exact ⟨rfl, below_step bW hb1⟩
  · simp only [if_true] at h
    have A00 : ∀ W : World, Below w.heap.size w W → Below w.heap.size w (W.alloc (.cells #[.int .i64 a0_0, .slice A0_1 l0_1.length c0_1] 29)) := fun W hW => below_alloc hW _
    have K00 : ∀ w1, Below (w.alloc (.cells #[.int .i64 a0_0, .slice A0_1 l0_1.length c0_1] 29)).heap.size (w.alloc (.cells #[.int .i64 a0_0, .slice A0_1 l0_1.length c0_1] 29)) w1 → w1.cell? ⟨w.heap.size, 0, none⟩ = some (.int .i64 a0_0) := fun w1 hb => (hb.cell (p := ⟨w.heap.size, 0, none⟩) (by simp)).trans (by go_simp)
    have K10 : ∀ w1, Below (w.alloc (.cells #[.int .i64 a0_0, .slice A0_1 l0_1.length c0_1] 29)).heap.size (w.alloc (.cells #[.int .i64 a0_0, .slice A0_1 l0_1.length c0_1] 29)) w1 → Aside0 (w.heap.size < w1.heap.size) := fun w1 hb => ⟨by have := hb.size; simp at this; omega⟩
    have A0 := Aside0.mk A00
    have K0 := Aside0.mk K00
    have K1 := Aside0.mk K10
    clear A00 K00 K10
    cases q1
    · simp only [Bool.false_eq_true, if_false] at h
      cases q2
      · simp only [Bool.false_eq_true, if_false] at h
        subst h
        go_enter Tryd.func68, Tryd.ntmps68
        go_wp2_with (first | (go_at_call 58; refine (HA.out _ (A0.out _ HB.out)).mono ?_; rintro e w1 ⟨rfl, hb1⟩; have L1 := K1.out _ hb1; have HB1 := Aside0.mk (below_step (A0.out _ HB.out) hb1); have k1 := K0.out _ hb1; have HN1 := Aside0.mk hb1; clear hb1) | (go_at_call 119; (with_reducible refine (H1.out _ HB1.out).mono ?_); rintro e w2 ⟨rfl, hb2⟩; have L2 := Aside0.mk (Nat.lt_of_lt_of_le L1.out hb2.size); have k2 := (hb2.cell (p := ⟨w.heap.size, 0, none⟩) L1.out).trans k1; have HB2 := Aside0.mk (below_step HB1.out hb2); clear hb2 k1) | (go_at_call 119; (with_reducible refine (H2.out _ HB2.out _ k2 L2.out).mono ?_); rintro e w3 ⟨rfl, hb3⟩; have HB3 := Aside0.mk (below_step HB2.out hb3); clear hb3))
        go_ret
        exact ⟨rfl, HB3.out⟩
      · simp only [if_true] at h
        subst h
        go_enter Tryd.func68, Tryd.ntmps68
        go_wp2_with (first | (go_at_call 58; refine (HA.out _ (A0.out _ HB.out)).mono ?_; rintro e w1 ⟨rfl, hb1⟩; have L1 := K1.out _ hb1; have HB1 := Aside0.mk (below_step (A0.out _ HB.out) hb1); have k1 := K0.out _ hb1; have HN1 := Aside0.mk hb1; clear hb1) | (go_at_call 119; (with_reducible refine (H1.out _ HB1.out).mono ?_); rintro e w2 ⟨rfl, hb2⟩; have L2 := Aside0.mk (Nat.lt_of_lt_of_le L1.out hb2.size); have k2 := (hb2.cell (p := ⟨w.heap.size, 0, none⟩) L1.out).trans k1; have HB2 := Aside0.mk (below_step HB1.out hb2); clear hb2 k1) | (go_at_call 119; (with_reducible refine (H2.out _ HB2.out _ k2 L2.out).mono ?_); rintro e w3 ⟨rfl, hb3⟩; have HB3 := Aside0.mk (below_step HB2.out hb3); clear hb3))
        go_ret
        exact ⟨rfl, HB3.out⟩
    · simp only [if_true] at h
      subst h
      clear H2
      go_enter Tryd.func68, Tryd.ntmps68
      go_wp2_with (first | (go_at_call 58; refine (HA.out _ (A0.out _ HB.out)).mono ?_; rintro e w1 ⟨rfl, hb1⟩; have L1 := K1.out _ hb1; have HB1 := Aside0.mk (below_step (A0.out _ HB.out) hb1); have k1 := K0.out _ hb1; have HN1 := Aside0.mk hb1; clear hb1) | (go_at_call 119; (with_reducible refine (H1.out _ HB1.out).mono ?_); rintro e w2 ⟨rfl, hb2⟩; have L2 := Aside0.mk (Nat.lt_of_lt_of_le L1.out hb2.size); have k2 := (hb2.cell (p := ⟨w.heap.size, 0, none⟩) L1.out).trans k1; have HB2 := Aside0.mk (below_step HB1.out hb2); clear hb2 k1))
      go_ret
      exact ⟨rfl, HB2.out⟩
/-! ### impl_machineOf: function 69 -/
def impl_machineOf.l0 : Nat → Int → Int → Int → Int → Int → List (List Int) → Int → Int → List Bool → List (List Int) → Option (Int × Int × List Bool × (List (List Int)))
 | 0, _, _, _, _, _, _, _, _, _, _ => none
 | k + 1, x14, x15, x416000, x416001, x416002, x416003, x418000, x418001, x418002, x418003 => if x15 < x14 then ((impl_has.f x416002 x15).bind fun t418 => (if x418002.length < 140737488355328 then (impl_machineOf.l0 k x14 (wrap64 (x15 + 1)) x416000 x416001 x416002 x416003 x418000 x418001 (x418002 ++ [t418]) x418003) else (none))) else (some (x418000, x418001, x418002, x418003))
def impl_machineOf.f (k : Nat) (a0_0 : Int) (a0_1 : Int) (a0_2 : Int) (l0_3 : List (List Int)) : Option (Int × Int × List Bool × (List (List Int))) := impl_machineOf.l0 k (l0_3.length : Int) 0 a0_0 a0_1 a0_2 l0_3 a0_0 a0_1 ([] : List Bool) l0_3
def impl_machineOf.T5 : Bool × List (List Nat × List Nat) := (true, [([], []), ([0], [0]), ([], []), ([2], [2]), ([], []), ([3, 4], [3, 4]), ([5], [5]), ([1, 6, 5], [1, 6]), ([0, 1, 2, 3, 4, 5, 6, 7], []), ([8, 7, 7, 0, 1, 2, 3, 4, 5, 6, 7], [7, 8])])
def impl_machineOf.B5 : List Nat := [0, 1, 0, 4, 0, 28, 60, 127, 255, 511]
theorem impl_machineOf.tab5 : rtab .any (opsOf Tryd.f69 5) = impl_machineOf.T5 := by kernel_rfl
theorem impl_machineOf.bits5 : waitsOk impl_machineOf.T5.2 impl_machineOf.B5 = true := by kernel_rfl
set_option maxHeartbeats 8000000 in
set_option maxRecDepth 100000 in
theorem impl_machineOf.calls (k : Nat) (a0_0 : Int) (a0_1 : Int) (a0_2 : Int) (P0_3_ : Nat → Prop) (A0_3 : Option Addr) (c0_3 : Nat) (l0_3 : List (List Int)) (r1 : Int) (r2 : Int) (r3 : List Bool) (r4 : List (List Int)) (w : World) (hs0_3 : Kd.V (Kd.slice 2 (Kd.int .i64)) 22 w w.heap.size (fun k_ => P0_3_ k_) (.slice A0_3 l0_3.length c0_3) l0_3) (h : impl_machineOf.f k a0_0 a0_1 a0_2 l0_3 = some (r1, r2, r3, r4)) :
  Calls Tryd.prog 69 #[.agg #[.int .i64 a0_0, .int .i64 a0_1, .int .i64 a0_2, .slice A0_3 l0_3.length c0_3]] w fun e w' => ∃ v2_ v3_ : Value, e = .returned (.agg #[.int .i64 r1, .int .i64 r2, v2_, v3_]) ∧ Kd.R Kd.bool 4 w' w.heap.size (fun k_ => (w.heap.size ≤ k_)) v2_ r3 ∧ Kd.V (Kd.slice 2 (Kd.int .i64)) 22 w' w.heap.size (fun k_ => (P0_3_ k_ ∨ w.heap.size ≤ k_) ∧ some k_ ≠ (v2_ : Value).ownBlock) v3_ r4 ∧ Below w.heap.size w w' := by
 have hu48 := Tryd.underlying48
 have hu100 := Tryd.underlying100
 have HO0_3 := Aside0.mk (show Kd.V (Kd.slice 2 (Kd.int .i64)) 22 w w.heap.size (fun k_ => (P0_3_ k_ ∨ w.heap.size ≤ k_)) (.slice A0_3 l0_3.length c0_3) l0_3 from Kd.V_mono hs0_3 (fun k_ hk => .inl hk))
 have HB := Aside0.mk (Below.refl w.heap.size w)
 have H : (impl_machineOf.l0 k (l0_3.length : Int) 0 a0_0 a0_1 a0_2 l0_3 a0_0 a0_1 ([] : List Bool) l0_3) = some (r1, r2, r3, r4) := h
 clear h
 have H' := Aside0.mk H
 clear H
 go_enter Tryd.func69, Tryd.ntmps69
 go_wp2_with (first | ((with_reducible refine gate_dst (N := 1) rfl ?_); refine boxS (N := 1) (cs := #[.int .i64 a0_0, .int .i64 a0_1, .int .i64 a0_2, .slice A0_3 l0_3.length c0_3]) (t := 48) ?_; intro gb415 hg w2 hbox hb; have n0_ := Aside0.mk (Kd.V_below (Kd.V_elderB (by (with_reducible repeat (first | apply Kd.V_alloc | apply Kd.V_drewN | apply Kd.V_drew)); exact HO0_3.out) gb415 (Nat.le_of_eq hg.symm)) hb); have n1_ := Aside0.mk (below_step (bW) hb); have n2_ := Aside0.mk (hbox); have n3_ := geW (w := w) hg; have n4_ := geW (w := w) hg; clear HO0_3 HB; have HO0_3 := n0_; have HB := n1_; have BK415 := n2_; have GW415 := n3_; have GE415 := n4_; clear n0_ n1_ n2_ n3_ n4_ hb hbox hg) | ((with_reducible refine gate_dst (N := 2) rfl ?_); refine boxS (N := 2) (cs := #[.int .i64 0, .int .i64 0, .slice none 0 0, .slice none 0 0]) (t := 100) ?_; intro gb416 hg w3 hbox hb; have n0_ := Aside0.mk (Kd.V_below (Kd.V_elderB (by (with_reducible repeat (first | apply Kd.V_alloc | apply Kd.V_drewN | apply Kd.V_drew)); exact HO0_3.out) gb416 (Nat.le_of_eq hg.symm)) hb); have n1_ := Aside0.mk (blkB BK415.out hb); have n2_ := Aside0.mk (below_step (bW) hb); have n3_ := Aside0.mk (hbox); have n4_ := geW (w := w) hg; have n5_ := geW (w := w) hg; have n6_ := Aside0.mk ((by rw [hg]; exact Nat.ne_of_lt (blk_lt (g := gb415) (o := .cells #[.int .i64 a0_0, .int .i64 a0_1, .int .i64 a0_2, .slice A0_3 l0_3.length c0_3] 48 (0, 0)) (bP BK415.out)) : gb415 ≠ gb416)); have n7_ := Aside0.mk ((by rw [hg]; exact Nat.ne_of_gt (blk_lt (g := gb415) (o := .cells #[.int .i64 a0_0, .int .i64 a0_1, .int .i64 a0_2, .slice A0_3 l0_3.length c0_3] 48 (0, 0)) (bP BK415.out)) : gb416 ≠ gb415)); clear HO0_3 BK415 HB; have HO0_3 := n0_; have BK415 := n1_; have HB := n2_; have BK416 := n3_; have GW416 := n4_; have GE416 := n5_; have NB415_416 := n6_; have NB416_415 := n7_; clear n0_ n1_ n2_ n3_ n4_ n5_ n6_ n7_ hb hbox hg; have hnb4 := NB415_416.out; have hnc4 := NB416_415.out; obtain ⟨hcz5_0, hcz5_1, hcz5_2, hcz5_3⟩ := cells4 BK415.out; obtain ⟨hfz5_0, hfz5_1, hfz5_2, hfz5_3⟩ := frz4 BK415.out) | ((with_reducible refine gate_dst (N := 3) rfl ?_); refine boxS (N := 3) (cs := #[.int .i64 0, .int .i64 0, .slice none 0 0, .slice none 0 0]) (t := 100) ?_; intro gb417 hg w6 hbox hb; have n0_ := Aside0.mk (Kd.V_below (Kd.V_elderB (by (with_reducible repeat (first | apply Kd.V_alloc | apply Kd.V_drewN | apply Kd.V_drew)); exact HO0_3.out) gb417 (Nat.le_of_eq hg.symm)) hb); have n1_ := Aside0.mk (blkB BK415.out hb); have n2_ := Aside0.mk (blkB BK416.out hb); have n3_ := Aside0.mk (below_step (bW) hb); have n4_ := Aside0.mk (hbox); have n5_ := geW (w := w) hg; have n6_ := geW (w := w) hg; have n7_ := Aside0.mk ((by rw [hg]; exact Nat.ne_of_lt (blk_lt (g := gb415) (o := .cells #[.int .i64 a0_0, .int .i64 a0_1, .int .i64 a0_2, .slice A0_3 l0_3.length c0_3] 48 (0, 0)) (bP BK415.out)) : gb415 ≠ gb417)); have n8_ := Aside0.mk ((by rw [hg]; exact Nat.ne_of_gt (blk_lt (g := gb415) (o := .cells #[.int .i64 a0_0, .int .i64 a0_1, .int .i64 a0_2, .slice A0_3 l0_3.length c0_3] 48 (0, 0)) (bP BK415.out)) : gb417 ≠ gb415)); have n9_ := Aside0.mk ((by rw [hg]; exact Nat.ne_of_lt (blk_lt (g := gb416) (o := .cells #[.int .i64 0, .int .i64 0, .slice none 0 0, .slice none 0 0] 100 (0, 0)) (bP BK416.out)) : gb416 ≠ gb417)); have n10_ := Aside0.mk ((by rw [hg]; exact Nat.ne_of_gt (blk_lt (g := gb416) (o := .cells #[.int .i64 0, .int .i64 0, .slice none 0 0, .slice none 0 0] 100 (0, 0)) (bP BK416.out)) : gb417 ≠ gb416)); clear HO0_3 BK415 BK416 HB; have HO0_3 := n0_; have BK415 := n1_; have BK416 := n2_; have HB := n3_; have BK417 := n4_; have GW417 := n5_; have GE417 := n6_; have NB415_417 := n7_; have NB417_415 := n8_; have NB416_417 := n9_; have NB417_416 := n10_; clear n0_ n1_ n2_ n3_ n4_ n5_ n6_ n7_ n8_ n9_ n10_ hb hbox hg; have hnb7 := NB417_415.out; have hnc7 := NB415_417.out; have hnb8 := NB417_416.out; have hnc8 := NB416_417.out; obtain ⟨hcz9_0, hcz9_1, hcz9_2, hcz9_3⟩ := cells4 BK417.out; obtain ⟨hfz9_0, hfz9_1, hfz9_2, hfz9_3⟩ := frz4 BK417.out; obtain ⟨hcz10_0, hcz10_1, hcz10_2, hcz10_3⟩ := cells4 BK415.out; obtain ⟨hfz10_0, hfz10_1, hfz10_2, hfz10_3⟩ := frz4 BK415.out))
 go_loopg [15] k (fun kq v15 w' => ∃ (x15_1 : Int) (x418002_1 : List Bool) (u418002 : Value), v15 = .int .i64 x15_1 ∧ Aside0 (impl_machineOf.l0 kq (l0_3.length : Int) x15_1 a0_0 a0_1 a0_2 l0_3 a0_0 a0_1 x418002_1 l0_3 = some (r1, r2, r3, r4)) ∧ Aside0 (kq ≤ k) ∧ Aside0 (Kd.V (Kd.slice 2 (Kd.int .i64)) 22 w' w.heap.size (fun k_ => (P0_3_ k_ ∨ w.heap.size ≤ k_) ∧ some k_ ≠ (u418002 : Value).ownBlock ∧ k_ ≠ gb415 ∧ k_ ≠ gb416 ∧ k_ ≠ gb417) (.slice A0_3 l0_3.length c0_3) l0_3) ∧ Aside0 (Kd.R Kd.bool 4 w' w.heap.size (fun k_ => (w.heap.size ≤ k_)) u418002 x418002_1) ∧ Aside0 (Kd.V (Kd.slice 2 (Kd.int .i64)) 22 w' w.heap.size (fun k_ => (P0_3_ k_ ∨ w.heap.size ≤ k_) ∧ some k_ ≠ (u418002 : Value).ownBlock ∧ k_ ≠ gb415 ∧ k_ ≠ gb416 ∧ k_ ≠ gb417) (.slice A0_3 l0_3.length c0_3) l0_3) ∧ Aside0 (w'.heap[gb415]? = some (.cells #[.int .i64 a0_0, .int .i64 a0_1, .int .i64 a0_2, (.slice A0_3 l0_3.length c0_3)] 48 (0, 0))) ∧ Aside0 (w'.heap[gb416]? = some (.cells #[.int .i64 0, .int .i64 0, (.slice none 0 0), (.slice none 0 0)] 100 (0, 0))) ∧ Aside0 (w'.heap[gb417]? = some (.cells #[.int .i64 a0_0, .int .i64 a0_1, u418002, (.slice A0_3 l0_3.length c0_3)] 100 (0, 0))) ∧ Aside0 (Below w.heap.size w w'))
 case atStart => exact ⟨(0), (([] : List Bool)), (.slice none 0 0), (eW), H', ⟨Nat.le_refl _⟩, ⟨by (with_reducible repeat (first | apply Kd.V_alloc | apply Kd.V_drewN | apply Kd.V_drew)); exact Kd.V_mono (Kd.V_far (p := ⟨gb417, 3, none⟩) (Kd.V_far (p := ⟨gb417, 2, none⟩) (Kd.V_far (p := ⟨gb417, 1, none⟩) (Kd.V_far (p := ⟨gb417, 0, none⟩) (Kd.V_mono HO0_3.out (fun k_ hk => (⟨hk, hk.2⟩ : _ ∧ k_ ≠ gb417))) (fun _ hk => hk.2) (.int .i64 a0_0)) (fun _ hk => hk.2) (.int .i64 a0_1)) (fun _ hk => hk.2) (.slice none 0 0)) (fun _ hk => hk.2) (.slice A0_3 l0_3.length c0_3)) (fun _ hk => ⟨hk.1.1.1.1, ⟨(by simp [Value.ownBlock]), ⟨hk.1.1.1.2, ⟨hk.1.1.2, hk.1.2⟩⟩⟩⟩)⟩, ⟨by first | exact Kd.R_nil _ _ _ _ _ | exact Kd.N_nil _ _ _ _ _ | exact Kd.V_nil _ _ _ _ _ | exact Kd.Q_nil _ _ _ _ _ | exact Kd.S_nil _ _ _ _ _⟩, ⟨by (with_reducible repeat (first | apply Kd.V_alloc | apply Kd.V_drewN | apply Kd.V_drew)); exact Kd.V_mono (Kd.V_far (p := ⟨gb417, 3, none⟩) (Kd.V_far (p := ⟨gb417, 2, none⟩) (Kd.V_far (p := ⟨gb417, 1, none⟩) (Kd.V_far (p := ⟨gb417, 0, none⟩) (Kd.V_mono HO0_3.out (fun k_ hk => (⟨hk, hk.2⟩ : _ ∧ k_ ≠ gb417))) (fun _ hk => hk.2) (.int .i64 a0_0)) (fun _ hk => hk.2) (.int .i64 a0_1)) (fun _ hk => hk.2) (.slice none 0 0)) (fun _ hk => hk.2) (.slice A0_3 l0_3.length c0_3)) (fun _ hk => ⟨hk.1.1.1.1, ⟨(by simp [Value.ownBlock]), ⟨hk.1.1.1.2, ⟨hk.1.1.2, hk.1.2⟩⟩⟩⟩)⟩, ⟨by (with_reducible repeat (first | refine blk_drewN ?_ _ | refine blk_drew ?_ | refine blk_alloc ?_ _)); refine blk_far ?_ NB415_417.out _; (with_reducible repeat (first | refine blk_drewN ?_ _ | refine blk_drew ?_ | refine blk_alloc ?_ _)); refine blk_far ?_ NB415_417.out _; (with_reducible repeat (first | refine blk_drewN ?_ _ | refine blk_drew ?_ | refine blk_alloc ?_ _)); refine blk_far ?_ NB415_417.out _; (with_reducible repeat (first | refine blk_drewN ?_ _ | refine blk_drew ?_ | refine blk_alloc ?_ _)); refine blk_far ?_ NB415_417.out _; exact bP BK415.out⟩, ⟨by (with_reducible repeat (first | refine blk_drewN ?_ _ | refine blk_drew ?_ | refine blk_alloc ?_ _)); refine blk_far ?_ NB416_417.out _; (with_reducible repeat (first | refine blk_drewN ?_ _ | refine blk_drew ?_ | refine blk_alloc ?_ _)); refine blk_far ?_ NB416_417.out _; (with_reducible repeat (first | refine blk_drewN ?_ _ | refine blk_drew ?_ | refine blk_alloc ?_ _)); refine blk_far ?_ NB416_417.out _; (with_reducible repeat (first | refine blk_drewN ?_ _ | refine blk_drew ?_ | refine blk_alloc ?_ _)); refine blk_far ?_ NB416_417.out _; exact bP BK416.out⟩, ⟨by (with_reducible repeat (first | refine blk_drewN ?_ _ | refine blk_drew ?_ | refine blk_alloc ?_ _)); refine blk_put (cs := #[.int .i64 a0_0, .int .i64 a0_1, .slice none 0 0, .slice none 0 0]) ?_ 3 _ rfl; (with_reducible repeat (first | refine blk_drewN ?_ _ | refine blk_drew ?_ | refine blk_alloc ?_ _)); refine blk_put (cs := #[.int .i64 a0_0, .int .i64 a0_1, .slice none 0 0, .slice none 0 0]) ?_ 2 _ rfl; (with_reducible repeat (first | refine blk_drewN ?_ _ | refine blk_drew ?_ | refine blk_alloc ?_ _)); refine blk_put (cs := #[.int .i64 a0_0, .int .i64 0, .slice none 0 0, .slice none 0 0]) ?_ 1 _ rfl; (with_reducible repeat (first | refine blk_drewN ?_ _ | refine blk_drew ?_ | refine blk_alloc ?_ _)); refine blk_put (cs := #[.int .i64 0, .int .i64 0, .slice none 0 0, .slice none 0 0]) ?_ 0 _ rfl; exact bP BK417.out⟩, ⟨bW⟩⟩
 case round =>
  clear H'
  try clear p2
  try clear c4
  try clear c6
  try clear c7
  try clear c8
  try clear hcz10_0
  try clear hcz10_1
  try clear hcz10_2
  try clear hcz10_3
  try clear hcz5_0
  try clear hcz5_1
  try clear hcz5_2
  try clear hcz5_3
  try clear hcz9_0
  try clear hcz9_1
  try clear hcz9_2
  try clear hcz9_3
  try clear hfz10_0
  try clear hfz10_1
  try clear hfz10_2
  try clear hfz10_3
  try clear hfz5_0
  try clear hfz5_1
  try clear hfz5_2
  try clear hfz5_3
  try clear hfz9_0
  try clear hfz9_1
  try clear hfz9_2
  try clear hfz9_3
  obtain ⟨x15_1, x418002_1, u418002, rfl, HA, HK1, HO_416003, HO_418002, HO_418003, BK415, BK416, BK417, HB⟩ := hrel
  cases gk with
  | zero => exact absurd HA.out (by simp [impl_machineOf.l0])
  | succ k1 =>
   have H := HA.out
   clear HA
   simp only [impl_machineOf.l0] at H
   by_cases c11 : x15_1 < (l0_3.length : Int)
   ·rw [if_pos c11] at H
    have c11b0 : decide (x15_1 < (l0_3.length : Int)) = true := decide_eq_true c11
    clear c11
    replace H := Option.bind_eq_some_iff.mp H
    obtain ⟨t418, A120, H⟩ := H
    replace H : (if x418002_1.length < 140737488355328 then (impl_machineOf.l0 k1 (l0_3.length : Int) (wrap64 (x15_1 + 1)) a0_0 a0_1 a0_2 l0_3 a0_0 a0_1 (x418002_1 ++ [t418]) l0_3) else (none)) = some (r1, r2, r3, r4) := H
    have A12 := Aside0.mk A120
    clear A120
    by_cases c13 : x418002_1.length < 140737488355328
    ·rw [if_pos c13] at H
     have LMc13 := Aside0.mk c13
     clear c13
     obtain ⟨y419, hy419⟩ : ∃ y_ : List Bool, y_ = (x418002_1 ++ [t418]) := ⟨_, rfl⟩
     replace H : (impl_machineOf.l0 k1 (l0_3.length : Int) (wrap64 (x15_1 + 1)) a0_0 a0_1 a0_2 l0_3 a0_0 a0_1 y419 l0_3) = some (r1, r2, r3, r4) := by first | (rw [hy419]; with_reducible exact H) | (have H2_ := (Option.bind_some _ _).symm.trans H; rw [hy419]; with_reducible exact H2_) | (have H2_ := (Option.bind_some _ _).symm.trans H; with_reducible exact H2_) | with_reducible exact H | (rw [hy419]; exact H) | exact H
     have Ny419 := Aside0.mk hy419
     clear hy419
     have H' := Aside0.mk H
     clear H
     try go_wp2
     have n0_ := Aside0.mk (Kd.V_drew HO_416003.out)
     have n1_ := Aside0.mk (Kd.R_drew HO_418002.out)
     have n2_ := Aside0.mk (Kd.V_drew HO_418003.out)
     have n3_ := Aside0.mk (blk_drew BK415.out)
     have n4_ := Aside0.mk (blk_drew BK416.out)
     have n5_ := Aside0.mk (blk_drew BK417.out)
     have n6_ := Aside0.mk (below_drew1 HB.out)
     clear HO_416003 HO_418002 HO_418003 BK415 BK416 BK417 HB; have HO_416003 := n0_; have HO_418002 := n1_; have HO_418003 := n2_; have BK415 := n3_; have BK416 := n4_; have BK417 := n5_; have HB := n6_; clear n0_ n1_ n2_ n3_ n4_ n5_ n6_
     refine start_ (n := 10) (S := fun w' => w'.cell? ⟨gb417, 0, none⟩ = some (.int .i64 a0_0) ∧ w'.cell? ⟨gb417, 1, none⟩ = some (.int .i64 a0_1) ∧ w'.cell? ⟨gb417, 2, none⟩ = some (u418002) ∧ w'.cell? ⟨gb417, 3, none⟩ = some (.slice A0_3 l0_3.length c0_3) ∧ w'.cell? ⟨gb415, 0, none⟩ = some (.int .i64 a0_0) ∧ w'.cell? ⟨gb415, 1, none⟩ = some (.int .i64 a0_1) ∧ w'.cell? ⟨gb415, 2, none⟩ = some (.int .i64 a0_2) ∧ w'.cell? ⟨gb415, 3, none⟩ = some (.slice A0_3 l0_3.length c0_3)) (ds := [9]) #[false, false, false, false, false, false, false, false, false, false] (by kernel_rfl) rfl rfl ⟨(blk_cell BK417.out 0).trans rfl, (blk_cell BK417.out 1).trans rfl, (blk_cell BK417.out 2).trans rfl, (blk_cell BK417.out 3).trans rfl, (blk_cell BK415.out 0).trans rfl, (blk_cell BK415.out 1).trans rfl, (blk_cell BK415.out 2).trans rfl, (blk_cell BK415.out 3).trans rfl⟩ (fun hHeld => ?_); refine with_tabW impl_machineOf.tab5 impl_machineOf.bits5 (fun HT_ HW_ => ?_)
     generalize wr.drew = w14 at HO_416003 HO_418002 HO_418003 BK415 BK416 BK417 HB hHeld ⊢
     refine pureS (i := 0) (N := some 18) (any_of HT_.out (by kernel_rfl)) ?_
     refine pureS (i := 2) (N := some 20) (any_of HT_.out (by kernel_rfl)) ?_
     refine pureS (i := 4) (N := some 22) (any_of HT_.out (by kernel_rfl)) ?_
     refine takeS (i := 1) (N := some 19) (take_ofW HT_.out HW_.out (by kernel_rfl)) hHeld ?_
     refine takeS (i := 3) (N := some 21) (take_ofW HT_.out HW_.out (by kernel_rfl)) hHeld ?_
     refine one_ (i := 5) (N := some 23) #[true, true, true, true, true, true, false, false, false, false] rfl rfl (one_of HT_.out (by kernel_rfl)) (by decide) (fun K hK => ?_)
     refine goes_ Tryd.func112 (by kernel_rfl) rfl #[.int .i64 a0_2, .int .i64 x15_1] (by rfl) rfl rfl (by (try simp only [List.map_toArray, List.map_cons, List.map_nil]); first | done | rfl | (simp only [List.length_drop, List.length_take]; rfl)) ?_
     with_reducible refine (impl_has.calls a0_2 x15_1 t418 _ A12.out).mono ?_
     rintro e w' ⟨rfl, ⟨nd, rfl⟩⟩
     refine ⟨_, rfl, ?_⟩
     refine hK.out _ _ ⟨(blk_cell BK417.out 0).trans rfl, (blk_cell BK417.out 1).trans rfl, (blk_cell BK417.out 2).trans rfl, (blk_cell BK417.out 3).trans rfl, (blk_cell BK415.out 0).trans rfl, (blk_cell BK415.out 1).trans rfl, (blk_cell BK415.out 2).trans rfl, (blk_cell BK415.out 3).trans rfl⟩ (fun hHeld => ?_)
     clear hK K
     refine norm_ (a' := ?_) ?_ ?_
     rotate_left
     ·show Act.put _ (some 23) _ = _
      simp only [Act.put, List.setIfInBounds_toArray, List.set_cons_zero, List.set_cons_succ, i64_w, i32_w]
      rfl
     refine one_ (i := 6) (N := some 24) #[true, true, true, true, true, true, true, false, false, false] rfl rfl (one_of HT_.out (by kernel_rfl)) (by decide) (fun K hK => ?_)
     refine value_ (w1 := ?_) (v := ?_) (by rfl) rfl ?_ ?_
     rotate_left 2
     ·go_simp
      constructor
      ·rfl
      ·rfl
     refine hK.out _ _ ⟨(blk_cell (blk_alloc BK417.out _) 0).trans rfl, (blk_cell (blk_alloc BK417.out _) 1).trans rfl, (blk_cell (blk_alloc BK417.out _) 2).trans rfl, (blk_cell (blk_alloc BK417.out _) 3).trans rfl, (blk_cell (blk_alloc BK415.out _) 0).trans rfl, (blk_cell (blk_alloc BK415.out _) 1).trans rfl, (blk_cell (blk_alloc BK415.out _) 2).trans rfl, (blk_cell (blk_alloc BK415.out _) 3).trans rfl⟩ (fun hHeld => ?_)
     clear hK K
     refine norm_ (a' := ?_) ?_ ?_
     rotate_left
     ·show Act.put _ (some 24) _ = _
      simp only [Act.put, List.setIfInBounds_toArray, List.set_cons_zero, List.set_cons_succ, i64_w, i32_w]
      rfl
     refine one_ (i := 7) (N := some 25) #[true, true, true, true, true, true, true, true, false, false] rfl rfl (one_of HT_.out (by kernel_rfl)) (by decide) (fun K hK => ?_)
     refine Kd.R_append_step Kd.bool (w0 := w) w.heap.size (by rfl) (.tmp 19) (.tmp 24) 98 4 (.bool false) 1 rfl Tryd.underlying98 info4 rfl (by decide) (by omega) u418002 x418002_1 t418 [.bool t418] (fun k_ => (w.heap.size ≤ k_)) (fun _ => False) rfl rfl ?aP (fun _ hk => hk.elim) ?aF ?aO ?aB ?aS ?aL ?_
     (case aP => exact rfl)
     (case aB => exact (bW))
     (case aF => exact (fun k_ hk => (Nat.le_trans (below_size (bW)) hk)))
     (case aO => exact (rP HO_418002.out))
     (case aS => exact (below_size (bW)))
     (case aL => have := LMc13.out; omega)
     intro v420 w15 ho hb hg hat
     rw [← Ny419.out] at ho
     have n0_ := Aside0.mk (Kd.V_afterv (ok := (fun k_ => (P0_3_ k_ ∨ w.heap.size ≤ k_) ∧ k_ ≠ gb415 ∧ k_ ≠ gb416 ∧ k_ ≠ gb417)) (by (with_reducible repeat (first | apply Kd.V_alloc | apply Kd.V_drewN | apply Kd.V_drew)); exact Kd.V_mono HO_416003.out (fun _ hk => ⟨⟨hk.1, ⟨hk.2.2.1, ⟨hk.2.2.2.1, hk.2.2.2.2⟩⟩⟩, hk.2.1⟩)) hg hat)
     have n1_ := Aside0.mk (Kd.V_afterv (ok := (fun k_ => (P0_3_ k_ ∨ w.heap.size ≤ k_) ∧ k_ ≠ gb415 ∧ k_ ≠ gb416 ∧ k_ ≠ gb417)) (by (with_reducible repeat (first | apply Kd.V_alloc | apply Kd.V_drewN | apply Kd.V_drew)); exact Kd.V_mono HO_418003.out (fun _ hk => ⟨⟨hk.1, ⟨hk.2.2.1, ⟨hk.2.2.2.1, hk.2.2.2.2⟩⟩⟩, hk.2.1⟩)) hg hat)
     have n2_ := Aside0.mk (blk_grown (g := gb415) (o := .cells #[.int .i64 a0_0, .int .i64 a0_1, .int .i64 a0_2, .slice A0_3 l0_3.length c0_3] 48 (0, 0)) (bP BK415.out) hg (Kd.R_ne HO_418002.out BK415.out (by decide)))
     have n3_ := Aside0.mk (blk_grown (g := gb416) (o := .cells #[.int .i64 0, .int .i64 0, .slice none 0 0, .slice none 0 0] 100 (0, 0)) (bP BK416.out) hg (Kd.R_ne HO_418002.out BK416.out (by decide)))
     have n4_ := Aside0.mk (blk_grown (g := gb417) (o := .cells #[.int .i64 a0_0, .int .i64 a0_1, u418002, .slice A0_3 l0_3.length c0_3] 100 (0, 0)) (bP BK417.out) hg (Kd.R_ne HO_418002.out BK417.out (by decide)))
     have n5_ := Aside0.mk (hb)
     have n6_ := Aside0.mk (ho)
     clear HO_416003 HO_418003 BK415 BK416 BK417 HB HO_418002; have HO_416003 := n0_; have HO_418003 := n1_; have BK415 := n2_; have BK416 := n3_; have BK417 := n4_; have HB := n5_; have HO421 := n6_; clear n0_ n1_ n2_ n3_ n4_ n5_ n6_ ho hb hg hat
     obtain ⟨Ao16, co16, eo16⟩ := Kd.R_slice HO421.out
     (first | subst eo16 | (injection eo16 with f1_ f2_ f3_; have f4_ := f1_.symm; have f5_ := f3_.symm; clear f1_ f2_ f3_; subst f4_; subst f5_))
     refine hK.out _ _ ⟨(blk_cell BK417.out 0).trans rfl, (blk_cell BK417.out 1).trans rfl, (blk_cell BK417.out 2).trans rfl, (blk_cell BK417.out 3).trans rfl, (blk_cell BK415.out 0).trans rfl, (blk_cell BK415.out 1).trans rfl, (blk_cell BK415.out 2).trans rfl, (blk_cell BK415.out 3).trans rfl⟩ (fun hHeld => ?_)
     clear hK K
     refine norm_ (a' := ?_) ?_ ?_
     rotate_left
     ·show Act.put _ (some 25) _ = _
      simp only [Act.put, List.setIfInBounds_toArray, List.set_cons_zero, List.set_cons_succ, i64_w, i32_w]
      rfl
     refine pureS (i := 8) (N := some 26) (any_of HT_.out (by kernel_rfl)) ?_
     refine last_ (i := 9) (N := none) #[true, true, true, true, true, true, true, true, true, true] rfl rfl (one_of HT_.out (by kernel_rfl)) (by decide) (fun K hK => ?_)
     have hs17 : w15.cell? ⟨gb417, 2, none⟩ = some (u418002) := (blk_cell BK417.out 2).trans rfl
     have hfs17 := blk_frozen BK417.out 2
     have hns17_0 := NB415_417.out
     have hns17_1 := NB416_417.out
     have hms17_0 := NB417_415.out
     have hms17_1 := NB417_416.out
     refine skip_ (w1 := ?_) (by rfl) rfl ?_ ?_
     rotate_left
     ·go_simp
      rfl
     refine hK.out _ _ ?_
     clear hK K
     refine done_ (done_of HT_.out (by kernel_rfl)) ?_
     try go_wp2
     go_roundg k1
     case measure => have := HK1.out; omega
     case rel => exact ⟨(wrap64 (x15_1 + 1)), (y419), (.slice Ao16 y419.length co16), (eW), H', ⟨by have := HK1.out; omega⟩, ⟨by (with_reducible repeat (first | apply Kd.V_alloc | apply Kd.V_drewN | apply Kd.V_drew)); exact Kd.V_mono (Kd.V_far (p := ⟨gb417, 2, none⟩) (Kd.V_mono HO_416003.out (fun k_ hk => (⟨hk, hk.1.2.2.2⟩ : _ ∧ k_ ≠ gb417))) (fun _ hk => hk.2) (.slice Ao16 y419.length co16)) (fun _ hk => ⟨hk.1.1.1, ⟨hk.1.2, ⟨hk.1.1.2.1, ⟨hk.1.1.2.2.1, hk.1.1.2.2.2⟩⟩⟩⟩)⟩, ⟨by (with_reducible repeat (first | apply Kd.R_alloc | apply Kd.R_drewN | apply Kd.R_drew)); exact Kd.R_mono (Kd.R_far (p := ⟨gb417, 2, none⟩) (Kd.R_types HO421.out BK417.out (by decide)) (fun _ hk => hk.2) (.slice Ao16 y419.length co16)) (fun _ hk => hk.1)⟩, ⟨by (with_reducible repeat (first | apply Kd.V_alloc | apply Kd.V_drewN | apply Kd.V_drew)); exact Kd.V_mono (Kd.V_far (p := ⟨gb417, 2, none⟩) (Kd.V_mono HO_418003.out (fun k_ hk => (⟨hk, hk.1.2.2.2⟩ : _ ∧ k_ ≠ gb417))) (fun _ hk => hk.2) (.slice Ao16 y419.length co16)) (fun _ hk => ⟨hk.1.1.1, ⟨hk.1.2, ⟨hk.1.1.2.1, ⟨hk.1.1.2.2.1, hk.1.1.2.2.2⟩⟩⟩⟩)⟩, ⟨by (with_reducible repeat (first | refine blk_drewN ?_ _ | refine blk_drew ?_ | refine blk_alloc ?_ _)); refine blk_far ?_ NB415_417.out _; exact bP BK415.out⟩, ⟨by (with_reducible repeat (first | refine blk_drewN ?_ _ | refine blk_drew ?_ | refine blk_alloc ?_ _)); refine blk_far ?_ NB416_417.out _; exact bP BK416.out⟩, ⟨by (with_reducible repeat (first | refine blk_drewN ?_ _ | refine blk_drew ?_ | refine blk_alloc ?_ _)); refine blk_put (cs := #[.int .i64 a0_0, .int .i64 a0_1, u418002, .slice A0_3 l0_3.length c0_3]) ?_ 2 _ rfl; exact bP BK417.out⟩, ⟨bW⟩⟩
    ·rw [if_neg c13] at H
     exact absurd H (by simp)
   ·rw [if_neg c11] at H
    have c11b0 : decide (x15_1 < (l0_3.length : Int)) = false := decide_eq_false c11
    clear c11
    simp only [Option.some.injEq, Prod.mk.injEq] at H
    obtain ⟨rfl, rfl, rfl, rfl⟩ := H
    have hnb18 := NB417_415.out
    have hnc18 := NB415_417.out
    have hnb19 := NB417_416.out
    have hnc19 := NB416_417.out
    have hcz20_0 : wr.cell? ⟨gb417, 0, none⟩ = some (.int .i64 a0_0) := (blk_cell BK417.out 0).trans rfl
    have hcz20_1 : wr.cell? ⟨gb417, 1, none⟩ = some (.int .i64 a0_1) := (blk_cell BK417.out 1).trans rfl
    have hcz20_2 : wr.cell? ⟨gb417, 2, none⟩ = some (u418002) := (blk_cell BK417.out 2).trans rfl
    have hcz20_3 : wr.cell? ⟨gb417, 3, none⟩ = some (.slice A0_3 l0_3.length c0_3) := (blk_cell BK417.out 3).trans rfl
    have hfz20_0 := blk_frozen BK417.out 0
    have hfz20_1 := blk_frozen BK417.out 1
    have hfz20_2 := blk_frozen BK417.out 2
    have hfz20_3 := blk_frozen BK417.out 3
    have hnb21 := NB416_415.out
    have hnc21 := NB415_416.out
    have hcz22_0 : wr.cell? ⟨gb416, 0, none⟩ = some (.int .i64 0) := (blk_cell BK416.out 0).trans rfl
    have hcz22_1 : wr.cell? ⟨gb416, 1, none⟩ = some (.int .i64 0) := (blk_cell BK416.out 1).trans rfl
    have hcz22_2 : wr.cell? ⟨gb416, 2, none⟩ = some (.slice none 0 0) := (blk_cell BK416.out 2).trans rfl
    have hcz22_3 : wr.cell? ⟨gb416, 3, none⟩ = some (.slice none 0 0) := (blk_cell BK416.out 3).trans rfl
    have hfz22_0 := blk_frozen BK416.out 0
    have hfz22_1 := blk_frozen BK416.out 1
    have hfz22_2 := blk_frozen BK416.out 2
    have hfz22_3 := blk_frozen BK416.out 3
    obtain ⟨Ao23, co23, eo23⟩ := Kd.R_slice HO_418002.out
    subst eo23
    go_wp2
    refine bodyPost_ret (results_cell_row rfl _ _ gb416 100 #[.int .i64 a0_0, .int .i64 a0_1, .slice Ao23 x418002_1.length co23, .slice A0_3 l0_3.length c0_3] (0, 0) _ rfl (by (with_reducible repeat (first | refine blk_drewN ?_ _ | refine blk_drew ?_ | refine blk_alloc ?_ _)); refine blk_put (cs := #[.int .i64 a0_0, .int .i64 a0_1, .slice Ao23 x418002_1.length co23, .slice none 0 0]) ?_ 3 _ rfl; (with_reducible repeat (first | refine blk_drewN ?_ _ | refine blk_drew ?_ | refine blk_alloc ?_ _)); refine blk_put (cs := #[.int .i64 a0_0, .int .i64 a0_1, .slice none 0 0, .slice none 0 0]) ?_ 2 _ rfl; (with_reducible repeat (first | refine blk_drewN ?_ _ | refine blk_drew ?_ | refine blk_alloc ?_ _)); refine blk_put (cs := #[.int .i64 a0_0, .int .i64 0, .slice none 0 0, .slice none 0 0]) ?_ 1 _ rfl; (with_reducible repeat (first | refine blk_drewN ?_ _ | refine blk_drew ?_ | refine blk_alloc ?_ _)); refine blk_put (cs := #[.int .i64 0, .int .i64 0, .slice none 0 0, .slice none 0 0]) ?_ 0 _ rfl; exact bP BK416.out) Tryd.underlying100 rfl (by kernel_rfl)) rfl ?_
    exact ⟨_, _, eW, by (with_reducible repeat (first | apply Kd.R_alloc | apply Kd.R_drewN | apply Kd.R_drew)); exact Kd.R_mono (Kd.R_far (p := ⟨gb416, 3, none⟩) (Kd.R_far (p := ⟨gb416, 2, none⟩) (Kd.R_far (p := ⟨gb416, 1, none⟩) (Kd.R_far (p := ⟨gb416, 0, none⟩) (Kd.R_types HO_418002.out BK416.out (by decide)) (fun _ hk => hk.2) (.int .i64 a0_0)) (fun _ hk => hk.2) (.int .i64 a0_1)) (fun _ hk => hk.2) (.slice Ao23 x418002_1.length co23)) (fun _ hk => hk.2) (.slice A0_3 l0_3.length c0_3)) (fun _ hk => hk.1), by (with_reducible repeat (first | apply Kd.V_alloc | apply Kd.V_drewN | apply Kd.V_drew)); exact Kd.V_mono (Kd.V_far (p := ⟨gb416, 3, none⟩) (Kd.V_far (p := ⟨gb416, 2, none⟩) (Kd.V_far (p := ⟨gb416, 1, none⟩) (Kd.V_far (p := ⟨gb416, 0, none⟩) (Kd.V_mono HO_418003.out (fun k_ hk => (⟨hk, hk.2.2.2.1⟩ : _ ∧ k_ ≠ gb416))) (fun _ hk => hk.2) (.int .i64 a0_0)) (fun _ hk => hk.2) (.int .i64 a0_1)) (fun _ hk => hk.2) (.slice Ao23 x418002_1.length co23)) (fun _ hk => hk.2) (.slice A0_3 l0_3.length c0_3)) (fun _ hk => ⟨hk.1.1, hk.1.2.1⟩), bW⟩
/-! ### impl_depend: function 124 -/
def impl_depend.f (a0_0 : Int) (l0_1 : List Int) (a1 : Int) (a2 : Int) : Option (Bool) := if 0 ≤ a1 then (if a1 < (l0_1.length : Int) then ((impl_has.f (rd l0_1 a1) a2).bind fun t424 => (some t424)) else (none)) else (none)
set_option maxHeartbeats 8000000 in
set_option maxRecDepth 100000 in
theorem impl_depend.calls (a0_0 : Int) (A0_1 : Option Addr) (c0_1 : Nat) (l0_1 : List Int) (a1 : Int) (a2 : Int) (r : Bool) (w : World) (hr0_1 : Kd.C (Kd.int .i64) w A0_1 l0_1.length l0_1) (hc0_1 : l0_1.length ≤ c0_1) (h : impl_depend.f a0_0 l0_1 a1 a2 = some r) :
  Calls Tryd.prog 124 #[.agg #[.int .i64 a0_0, .slice A0_1 l0_1.length c0_1], .int .i64 a1, .int .i64 a2] w fun e w' => e = .returned (.bool r) ∧ Below w.heap.size w w' := by
 have hu29 := Tryd.underlying29
 have HR0_1 := Aside0.mk hr0_1
 have HC0_1 := Aside0.mk hc0_1
 clear hr0_1 hc0_1
 have HB := Aside0.mk (Below.refl w.heap.size w)
 have H : (if 0 ≤ a1 then (if a1 < (l0_1.length : Int) then ((impl_has.f (rd l0_1 a1) a2).bind fun t424 => (some t424)) else (none)) else (none)) = some r := h
 clear h
 by_cases c4 : 0 ≤ a1
 ·rw [if_pos c4] at H
  have c4b0 : decide (0 ≤ a1) = true := decide_eq_true c4
  clear c4
  by_cases c5 : a1 < (l0_1.length : Int)
  ·rw [if_pos c5] at H
   have c5b0 : decide (a1 < (l0_1.length : Int)) = true := decide_eq_true c5
   clear c5
   replace H := Option.bind_eq_some_iff.mp H
   obtain ⟨t424, A60, H⟩ := H
   replace H : (some t424) = some r := H
   have A6 := Aside0.mk A60
   clear A60
   obtain rfl := Option.some.inj H
   go_enter Tryd.func124, Tryd.ntmps124
   go_wp2_with (first | ((with_reducible refine gate_dst (N := 3) rfl ?_); refine boxS (N := 3) (cs := #[.int .i64 a0_0, .slice A0_1 l0_1.length c0_1]) (t := 29) ?_; intro gb422 hg w7 hbox hb; have n0_ := Aside0.mk (below_step (bW) hb); have n1_ := Aside0.mk (hbox); have n2_ := geW (w := w) hg; have n3_ := geW (w := w) hg; clear HB; have HB := n0_; have BK422 := n1_; have GW422 := n2_; have GE422 := n3_; clear n0_ n1_ n2_ n3_ hb hbox hg; obtain ⟨hcz8_0, hcz8_1⟩ := cells2 BK422.out; obtain ⟨hfz8_0, hfz8_1⟩ := frz2 BK422.out; have p423 : 0 ≤ (a1 : Int) := ofD; have q423 : a1 < (l0_1.length : Int) := ofD; obtain ⟨ad423, e423, hx423_0⟩ := Kd.at_int HR0_1.out a1 p423 q423; cases e423; replace hx423_0 := (HB.out.cell (World.block_lt_of_cell? w _ hx423_0)).trans hx423_0; replace p423 := eq_true p423; replace q423 := eq_true q423) | ((with_reducible refine gate_callee (f := 112) rfl ?_); refine goesS (some 13) Tryd.func112 #[.int .i64 (rd l0_1 a1), .int .i64 a2] ?_; (with_reducible refine (impl_has.calls (rd l0_1 a1) a2 t424 _ A6.out).mono ?_); rintro e w' ⟨rfl, ⟨nd, rfl⟩⟩; refine ⟨_, rfl, ?_⟩))
   go_ret
   exact ⟨eW, bW⟩
  ·rw [if_neg c5] at H
   exact absurd H (by simp)
 ·rw [if_neg c4] at H
  exact absurd H (by simp)
/-! ### impl_machine_step: function 125 -/
def impl_machine_step.f (a0_0 : Int) (a0_1 : Int) (l0_2 : List Bool) (l0_3 : List (List Int)) (a1 : Int) (a2 : Int) : Option (Int) := if a1 < 0 then (some (-1)) else (if 0 ≤ a1 then (if a1 < (l0_3.length : Int) then (if 0 ≤ a2 then (if a2 < ((rd_L1 l0_3 a1).length : Int) then (some (rd (rd_L1 l0_3 a1) a2)) else (none)) else (none)) else (none)) else (none))
set_option maxHeartbeats 8000000 in
set_option maxRecDepth 100000 in
theorem impl_machine_step.calls (a0_0 : Int) (a0_1 : Int) (A0_2 : Option Addr) (c0_2 : Nat) (l0_2 : List Bool) (A0_3 : Option Addr) (c0_3 : Nat) (l0_3 : List (List Int)) (a1 : Int) (a2 : Int) (r : Int) (w : World) (hr0_2 : Kd.C Kd.bool w A0_2 l0_2.length l0_2) (hc0_2 : l0_2.length ≤ c0_2) (hr0_3 : Kd.C (Kd.slice 2 (Kd.int .i64)) w A0_3 l0_3.length l0_3) (hc0_3 : l0_3.length ≤ c0_3) (h : impl_machine_step.f a0_0 a0_1 l0_2 l0_3 a1 a2 = some r) :
  Calls Tryd.prog 125 #[.agg #[.int .i64 a0_0, .int .i64 a0_1, .slice A0_2 l0_2.length c0_2, .slice A0_3 l0_3.length c0_3], .int .i64 a1, .int .i64 a2] w fun e w' => e = .returned (.int .i64 r) ∧ Below w.heap.size w w' := by
 have hu100 := Tryd.underlying100
 have HR0_2 := Aside0.mk hr0_2
 have HC0_2 := Aside0.mk hc0_2
 clear hr0_2 hc0_2
 have HR0_3 := Aside0.mk hr0_3
 have HC0_3 := Aside0.mk hc0_3
 clear hr0_3 hc0_3
 have HB := Aside0.mk (Below.refl w.heap.size w)
 have H : (if a1 < 0 then (some (-1)) else (if 0 ≤ a1 then (if a1 < (l0_3.length : Int) then (if 0 ≤ a2 then (if a2 < ((rd_L1 l0_3 a1).length : Int) then (some (rd (rd_L1 l0_3 a1) a2)) else (none)) else (none)) else (none)) else (none))) = some r := h
 clear h
 by_cases c4 : a1 < 0
 ·rw [if_pos c4] at H
  have c4b0 : decide (a1 < 0) = true := decide_eq_true c4
  clear c4
  obtain rfl := Option.some.inj H
  go_enter Tryd.func125, Tryd.ntmps125
  go_wp2_with (first | ((with_reducible refine gate_dst (N := 3) rfl ?_); refine boxS (N := 3) (cs := #[.int .i64 a0_0, .int .i64 a0_1, .slice A0_2 l0_2.length c0_2, .slice A0_3 l0_3.length c0_3]) (t := 100) ?_; intro gb425 hg w5 hbox hb; have n0_ := Aside0.mk (below_step (bW) hb); have n1_ := Aside0.mk (hbox); have n2_ := geW (w := w) hg; have n3_ := geW (w := w) hg; clear HB; have HB := n0_; have BK425 := n1_; have GW425 := n2_; have GE425 := n3_; clear n0_ n1_ n2_ n3_ hb hbox hg))
  go_ret
  exact ⟨eW, bW⟩
 ·rw [if_neg c4] at H
  have c4b0 : decide (a1 < 0) = false := decide_eq_false c4
  clear c4
  by_cases c6 : 0 ≤ a1
  ·rw [if_pos c6] at H
   have c6b0 : decide (0 ≤ a1) = true := decide_eq_true c6
   clear c6
   by_cases c7 : a1 < (l0_3.length : Int)
   ·rw [if_pos c7] at H
    have c7b0 : decide (a1 < (l0_3.length : Int)) = true := decide_eq_true c7
    clear c7
    by_cases c8 : 0 ≤ a2
    ·rw [if_pos c8] at H
     have c8b0 : decide (0 ≤ a2) = true := decide_eq_true c8
     clear c8
     by_cases c9 : a2 < ((rd_L1 l0_3 a1).length : Int)
     ·rw [if_pos c9] at H
      have c9b0 : decide (a2 < ((rd_L1 l0_3 a1).length : Int)) = true := decide_eq_true c9
      clear c9
      obtain rfl := Option.some.inj H
      go_enter Tryd.func125, Tryd.ntmps125
      go_wp2_with (first | ((with_reducible refine gate_dst (N := 3) rfl ?_); refine boxS (N := 3) (cs := #[.int .i64 a0_0, .int .i64 a0_1, .slice A0_2 l0_2.length c0_2, .slice A0_3 l0_3.length c0_3]) (t := 100) ?_; intro gb425 hg w10 hbox hb; have n0_ := Aside0.mk (below_step (bW) hb); have n1_ := Aside0.mk (hbox); have n2_ := geW (w := w) hg; have n3_ := geW (w := w) hg; clear HB; have HB := n0_; have BK425 := n1_; have GW425 := n2_; have GE425 := n3_; clear n0_ n1_ n2_ n3_ hb hbox hg; obtain ⟨hcz11_0, hcz11_1, hcz11_2, hcz11_3⟩ := cells4 BK425.out; obtain ⟨hfz11_0, hfz11_1, hfz11_2, hfz11_3⟩ := frz4 BK425.out; have p426 : 0 ≤ (a1 : Int) := ofD; have q426 : a1 < (l0_3.length : Int) := ofD; obtain ⟨ad426, A426_0, c426_0, e426, hx426_0, hl426_0, hi426_0⟩ := at_L1 HR0_3.out a1 p426 q426; cases e426; replace hx426_0 := (HB.out.cell (World.block_lt_of_cell? w _ hx426_0)).trans hx426_0; have HR426_0 := Aside0.mk hi426_0; have HC426_0 := Aside0.mk hl426_0; clear hi426_0 hl426_0; replace p426 := eq_true p426; replace q426 := eq_true q426; have p427 : 0 ≤ (a2 : Int) := ofD; have q427 : a2 < ((rd_L1 l0_3 a1).length : Int) := ofD; obtain ⟨ad427, e427, hx427_0⟩ := Kd.at_int HR426_0.out a2 p427 q427; cases e427; replace hx427_0 := (HB.out.cell (World.block_lt_of_cell? w _ hx427_0)).trans hx427_0; replace p427 := eq_true p427; replace q427 := eq_true q427))
      go_ret
      exact ⟨eW, bW⟩
     ·rw [if_neg c9] at H
      exact absurd H (by simp)
    ·rw [if_neg c8] at H
     exact absurd H (by simp)
   ·rw [if_neg c7] at H
    exact absurd H (by simp)
  ·rw [if_neg c6] at H
   exact absurd H (by simp)
end Go.Proofs.YthbaocejgjpfoaaDoor.P
end M0
