import Derived.ArgAppend
import Derived.Below
import Derived.BigQuiet
import Derived.Deep.AppendLies
import Derived.Deep.CutBlock
import Derived.Deep.DeepCutAuto
import Derived.Deep.Draws
import Derived.Deep.LoopGhost
import Derived.Deep.OwnRows
import Derived.Deep.QuietTactic
import Derived.Deep.RegionHeld3
import Derived.KernelRfl
import Derived.Laws.BitsLemmas
import Derived.Laws.BytesArg
import Derived.Laws.IdiomCopy
import Derived.Laws.MakeOwn
import Derived.Laws.OwnMore
import Derived.Laws.Rows
import Derived.Laws.Slices
import Derived.Laws.StructEq
import Derived.Lib.AppendStr
import Derived.Lib.ConvBytes
import Derived.Lib.SliceRun
import Derived.Maps.AppendAt
import Derived.OrdersHeld
import Derived.OwnWalk
import Derived.RowKit
import Derived.RowKit3
import Derived.Shelf.Abstract
import Derived.Shelf.Spec.TrailingZeros
import Derived.Tactics
import Derived.Test.YthbaocejgjpfoaaDoorProg
import Derived.WalkKit
import Derived.WideLaws
import Derived.Test.YthbaocejgjpfoaaDoorCFnExactIsAsynchronous2
import Derived.Test.YthbaocejgjpfoaaDoorCFnExactIsAsynchronous7
import Derived.Test.YthbaocejgjpfoaaDoorCFnExactIsAsynchronous8
import Derived.Test.YthbaocejgjpfoaaDoorCFnExactIsAsynchronous9
import Derived.Test.YthbaocejgjpfoaaDoorCFnExactIsAsynchronous10
section M0
namespace Go.Proofs.YthbaocejgjpfoaaDoor.P
open Go.RowKit Go.Proofs.YthbaocejgjpfoaaDoor.Sh Go.Proofs.YthbaocejgjpfoaaDoorW.PrintWords Go.Proofs.YthbaocejgjpfoaaDoorW.PrintLast Go.Proofs.YthbaocejgjpfoaaDoorW.PrintMore
attribute [local go_sem] max2_int min2_int max_two min_two max_three min_three max_four min_four   -- for this text's walks alone
set_option linter.unusedVariables false
set_option linter.unusedSimpArgs false

/-! ### impl_IsAsynchronous: function 40 -/
mutual
def impl_IsAsynchronous.j0 : Nat → Bool → List Int → List Int → List Int → List (S149) → List (List Int) → Option (Bool)
 | 0, _, _, _, _, _, _ => none
 | k + 1, x36, x571000, x571001, x571002, x571003, x571004 => if x36 = true then (some false) else (impl_IsAsynchronous.l0 k x571004 (x571004.length : Int) 0 x571000 x571001 x571002 x571003 x571004)
def impl_IsAsynchronous.l0 : Nat → List (List Int) → Int → Int → List Int → List Int → List Int → List (S149) → List (List Int) → Option (Bool)
 | 0, _, _, _, _, _, _, _, _ => none
 | k + 1, x38, x39, x40, x571000, x571001, x571002, x571003, x571004 => if x40 < x39 then (if 0 ≤ x40 then (if x40 < (x38.length : Int) then ((impl_isGlobal.f k x571001 (rd_L1 x38 x40)).bind fun t577 => (if t577 = true then (if x40 > 0 then (if 0 ≤ (wrap64 (x40 - 1)) then (if (wrap64 (x40 - 1)) < (x571004.length : Int) then ((slices_Compare_int64_int64.f k (rd_L1 x571004 (wrap64 (x40 - 1))) (rd_L1 x38 x40)).bind fun t579 => (if t579 ≥ 0 then (some false) else (impl_IsAsynchronous.l0 k x38 x39 (wrap64 (x40 + 1)) x571000 x571001 x571002 x571003 x571004))) else (none)) else (none)) else (impl_IsAsynchronous.l0 k x38 x39 (wrap64 (x40 + 1)) x571000 x571001 x571002 x571003 x571004)) else (some false))) else (none)) else (none)) else (some true)
end
def impl_IsAsynchronous.f (k : Nat) (l0_0 : List Int) (l0_1 : List Int) (l0_2 : List Int) (l0_3 : List (S149)) (l0_4 : List (List Int)) : Option (Bool) := (impl_length_int64_80.f l0_1).bind fun t571 => ((impl_arePlaces.f t571 l0_0).bind fun t572 => (if t572 = true then ((impl_allIn.f l0_1 1 4).bind fun t573 => (if t573 = true then ((impl_isGlobal.f k l0_1 l0_2).bind fun t574 => (if t574 = true then ((impl_goodJoints.f k l0_0 l0_1 l0_2 l0_3 l0_4).bind fun t575 => (if t575 = true then (impl_IsAsynchronous.j0 k (decide ((l0_4.length : Int) > 64)) l0_0 l0_1 l0_2 l0_3 l0_4) else (impl_IsAsynchronous.j0 k true l0_0 l0_1 l0_2 l0_3 l0_4))) else (impl_IsAsynchronous.j0 k true l0_0 l0_1 l0_2 l0_3 l0_4))) else (impl_IsAsynchronous.j0 k true l0_0 l0_1 l0_2 l0_3 l0_4))) else (impl_IsAsynchronous.j0 k true l0_0 l0_1 l0_2 l0_3 l0_4)))
theorem impl_IsAsynchronous.mono_l : ∀ k, (∀ y0 y1 y2 y3 y4 y5, LeO (impl_IsAsynchronous.j0 k y0 y1 y2 y3 y4 y5) (impl_IsAsynchronous.j0 (k + 1) y0 y1 y2 y3 y4 y5)) ∧ (∀ y0 y1 y2 y3 y4 y5 y6 y7, LeO (impl_IsAsynchronous.l0 k y0 y1 y2 y3 y4 y5 y6 y7) (impl_IsAsynchronous.l0 (k + 1) y0 y1 y2 y3 y4 y5 y6 y7))
 | 0 => ⟨fun _ _ _ _ _ _ r h => by simp [impl_IsAsynchronous.j0] at h, fun _ _ _ _ _ _ _ _ r h => by simp [impl_IsAsynchronous.l0] at h⟩
 | k + 1 => by
  obtain ⟨ih0, ih1⟩ := impl_IsAsynchronous.mono_l k
  refine ⟨?_, ?_⟩
  ·intro y0 y1 y2 y3 y4 y5
   unfold impl_IsAsynchronous.j0
   repeat' first
   | (with_reducible exact ih0 _ _ _ _ _ _)
   | (with_reducible exact ih1 _ _ _ _ _ _ _ _)
   | (with_reducible exact impl_goodJoints.mono _ _ _ _ _ _)
   | (with_reducible exact impl_isGlobal.mono _ _ _)
   | (with_reducible exact slices_Compare_int64_int64.mono _ _ _)
   | (with_reducible exact LeO.refl _)
   | (with_reducible exact LeO.none _)
   | (with_reducible refine LeO.ite ?_ ?_)
   | (with_reducible refine LeO.bind ?_ (fun _ => ?_))
   | exact ih0 _ _ _ _ _ _
   | exact ih1 _ _ _ _ _ _ _ _
   | exact impl_goodJoints.mono _ _ _ _ _ _
   | exact impl_isGlobal.mono _ _ _
   | exact slices_Compare_int64_int64.mono _ _ _
   | exact LeO.none _
   | refine LeO.ite ?_ ?_
   | refine LeO.bind ?_ (fun _ => ?_)
  ·intro y0 y1 y2 y3 y4 y5 y6 y7
   unfold impl_IsAsynchronous.l0
   repeat' first
   | (with_reducible exact ih0 _ _ _ _ _ _)
   | (with_reducible exact ih1 _ _ _ _ _ _ _ _)
   | (with_reducible exact impl_goodJoints.mono _ _ _ _ _ _)
   | (with_reducible exact impl_isGlobal.mono _ _ _)
   | (with_reducible exact slices_Compare_int64_int64.mono _ _ _)
   | (with_reducible exact LeO.refl _)
   | (with_reducible exact LeO.none _)
   | (with_reducible refine LeO.ite ?_ ?_)
   | (with_reducible refine LeO.bind ?_ (fun _ => ?_))
   | exact ih0 _ _ _ _ _ _
   | exact ih1 _ _ _ _ _ _ _ _
   | exact impl_goodJoints.mono _ _ _ _ _ _
   | exact impl_isGlobal.mono _ _ _
   | exact slices_Compare_int64_int64.mono _ _ _
   | exact LeO.none _
   | refine LeO.ite ?_ ?_
   | refine LeO.bind ?_ (fun _ => ?_)
theorem impl_IsAsynchronous.mono : ∀ a0 a1 a2 a3 a4 k, LeO (impl_IsAsynchronous.f k a0 a1 a2 a3 a4) (impl_IsAsynchronous.f (k + 1) a0 a1 a2 a3 a4) := by
 intro a0 a1 a2 a3 a4 k
 obtain ⟨ih0, ih1⟩ := impl_IsAsynchronous.mono_l k
 unfold impl_IsAsynchronous.f
 repeat' first
   | (with_reducible exact ih0 _ _ _ _ _ _)
   | (with_reducible exact ih1 _ _ _ _ _ _ _ _)
   | (with_reducible exact impl_goodJoints.mono _ _ _ _ _ _)
   | (with_reducible exact impl_isGlobal.mono _ _ _)
   | (with_reducible exact slices_Compare_int64_int64.mono _ _ _)
   | (with_reducible exact LeO.refl _)
   | (with_reducible exact LeO.none _)
   | (with_reducible refine LeO.ite ?_ ?_)
   | (with_reducible refine LeO.bind ?_ (fun _ => ?_))
   | exact ih0 _ _ _ _ _ _
   | exact ih1 _ _ _ _ _ _ _ _
   | exact impl_goodJoints.mono _ _ _ _ _ _
   | exact impl_isGlobal.mono _ _ _
   | exact slices_Compare_int64_int64.mono _ _ _
   | exact LeO.none _
   | refine LeO.ite ?_ ?_
   | refine LeO.bind ?_ (fun _ => ?_)
def impl_IsAsynchronous.T1 : Bool × List (List Nat × List Nat) := (true, [([], []), ([0], [0]), ([1], [1]), ([], []), ([3], [3]), ([2, 4, 2], [2, 4]), ([5], [5]), ([6, 5], [6]), ([7], [7]), ([8, 7], [7, 8]), ([9, 7, 7], [7, 9]), ([10, 7], [7, 10]), ([7, 11], [7, 11]), ([12, 10], [12]), ([13], [13]), ([14, 13], [13, 14]), ([13], [13]), ([16, 13], [13, 16]), ([15, 17, 13, 13], [13, 15, 17]), ([18, 13], [13, 18]), ([13, 19], [13, 19]), ([20, 18], [20]), ([21], [21]), ([22, 21, 21], [21, 22]), ([23, 21], [21, 23]), ([21, 24], [21, 24]), ([25, 23], [25]), ([26], [26]), ([27, 26], [26, 27]), ([28, 26], [26, 28]), ([29, 26], [26, 29]), ([26, 30], [26, 30])])
def impl_IsAsynchronous.B1 : List Nat := [0, 1, 3, 0, 8, 31, 63, 127, 255, 511, 1023, 2047, 4095, 8191, 16383, 32767, 16383, 81919, 262143, 524287, 1048575, 2097151, 4194303, 8388607, 16777215, 33554431, 67108863, 134217727, 268435455, 536870911, 1073741823, 2147483647]
theorem impl_IsAsynchronous.tab1 : rtab .any (opsOf Tryd.f40 1) = impl_IsAsynchronous.T1 := by kernel_rfl
theorem impl_IsAsynchronous.bits1 : waitsOk impl_IsAsynchronous.T1.2 impl_IsAsynchronous.B1 = true := by kernel_rfl
set_option maxHeartbeats 8000000 in
set_option maxRecDepth 100000 in
theorem impl_IsAsynchronous.calls (k : Nat) (A0_0 : Option Addr) (c0_0 : Nat) (l0_0 : List Int) (A0_1 : Option Addr) (c0_1 : Nat) (l0_1 : List Int) (A0_2 : Option Addr) (c0_2 : Nat) (l0_2 : List Int) (A0_3 : Option Addr) (c0_3 : Nat) (l0_3 : List (S149)) (A0_4 : Option Addr) (c0_4 : Nat) (l0_4 : List (List Int)) (r : Bool) (w : World) (hr0_0 : Kd.C (Kd.int .i64) w A0_0 l0_0.length l0_0) (hc0_0 : l0_0.length ≤ c0_0) (hr0_1 : Kd.C (Kd.int .i64) w A0_1 l0_1.length l0_1) (hc0_1 : l0_1.length ≤ c0_1) (hr0_2 : Kd.C (Kd.int .i64) w A0_2 l0_2.length l0_2) (hc0_2 : l0_2.length ≤ c0_2) (hr0_3 : Kd.C k149 w A0_3 l0_3.length l0_3) (hc0_3 : l0_3.length ≤ c0_3) (hr0_4 : Kd.C (Kd.slice 2 (Kd.int .i64)) w A0_4 l0_4.length l0_4) (hc0_4 : l0_4.length ≤ c0_4) (h : impl_IsAsynchronous.f k l0_0 l0_1 l0_2 l0_3 l0_4 = some r) (hTab : Tab w) :
  Calls Tryd.prog 40 #[.agg #[.slice A0_0 l0_0.length c0_0, .slice A0_1 l0_1.length c0_1, .slice A0_2 l0_2.length c0_2, .slice A0_3 l0_3.length c0_3, .slice A0_4 l0_4.length c0_4]] w fun e w' => e = .returned (.bool r) ∧ Below w.heap.size w w' := by
 have HTab := Aside0.mk hTab
 clear hTab
 have hu65 := Tryd.underlying65
 have HR0_0 := Aside0.mk hr0_0
 have HC0_0 := Aside0.mk hc0_0
 clear hr0_0 hc0_0
 have HR0_1 := Aside0.mk hr0_1
 have HC0_1 := Aside0.mk hc0_1
 clear hr0_1 hc0_1
 have HR0_2 := Aside0.mk hr0_2
 have HC0_2 := Aside0.mk hc0_2
 clear hr0_2 hc0_2
 have HR0_3 := Aside0.mk hr0_3
 have HC0_3 := Aside0.mk hc0_3
 clear hr0_3 hc0_3
 have HR0_4 := Aside0.mk hr0_4
 have HC0_4 := Aside0.mk hc0_4
 clear hr0_4 hc0_4
 have HB := Aside0.mk (Below.refl w.heap.size w)
 have H : ((impl_length_int64_80.f l0_1).bind fun t571 => ((impl_arePlaces.f t571 l0_0).bind fun t572 => (if t572 = true then ((impl_allIn.f l0_1 1 4).bind fun t573 => (if t573 = true then ((impl_isGlobal.f k l0_1 l0_2).bind fun t574 => (if t574 = true then ((impl_goodJoints.f k l0_0 l0_1 l0_2 l0_3 l0_4).bind fun t575 => (if t575 = true then (impl_IsAsynchronous.j0 k (decide ((l0_4.length : Int) > 64)) l0_0 l0_1 l0_2 l0_3 l0_4) else (impl_IsAsynchronous.j0 k true l0_0 l0_1 l0_2 l0_3 l0_4))) else (impl_IsAsynchronous.j0 k true l0_0 l0_1 l0_2 l0_3 l0_4))) else (impl_IsAsynchronous.j0 k true l0_0 l0_1 l0_2 l0_3 l0_4))) else (impl_IsAsynchronous.j0 k true l0_0 l0_1 l0_2 l0_3 l0_4)))) = some r := h
 clear h
 have HC2 := Aside0.mk H
 clear H
 go_enter Tryd.func40, Tryd.ntmps40
 go_upto_region 1 with (first | ((with_reducible refine gate_dst (N := 1) rfl ?_); (try (refine gate_guard (by rfl) ?_; dsimp only)); refine boxS (N := 1) (cs := #[.slice A0_0 l0_0.length c0_0, .slice A0_1 l0_1.length c0_1, .slice A0_2 l0_2.length c0_2, .slice A0_3 l0_3.length c0_3, .slice A0_4 l0_4.length c0_4]) (t := 65) ?_; intro gb570 hg w3 hbox hb; have n0_ := Aside0.mk (below_step (bW) hb); have n1_ := Aside0.mk (hbox); have n2_ := geW (w := w) hg; have n3_ := geW (w := w) hg; clear HB; have HB := n0_; have BK570 := n1_; have GW570 := n2_; have GE570 := n3_; clear n0_ n1_ n2_ n3_; clear hb hbox hg))
 (try simp only [Act.put, List.setIfInBounds_toArray, List.set_cons_zero, List.set_cons_succ])
 go_cut [36] (fun v36 wc => ∃ (kq : Nat) (x36_1 : Bool), v36 = .bool x36_1 ∧ Aside0 (impl_IsAsynchronous.j0 kq x36_1 l0_0 l0_1 l0_2 l0_3 l0_4 = some r) ∧ Aside0 (kq ≤ k) ∧ Aside0 (wc.heap[gb570]? = some (.cells #[(.slice A0_0 l0_0.length c0_0), (.slice A0_1 l0_1.length c0_1), (.slice A0_2 l0_2.length c0_2), (.slice A0_3 l0_3.length c0_3), (.slice A0_4 l0_4.length c0_4)] 65 (0, 0))) ∧ Aside0 (Below w.heap.size w wc))
 case first =>
  have H := HC2.out
  clear HC2
  replace H := Option.bind_eq_some_iff.mp H
  obtain ⟨t571, A40, H⟩ := H
  replace H : ((impl_arePlaces.f t571 l0_0).bind fun t572 => (if t572 = true then ((impl_allIn.f l0_1 1 4).bind fun t573 => (if t573 = true then ((impl_isGlobal.f k l0_1 l0_2).bind fun t574 => (if t574 = true then ((impl_goodJoints.f k l0_0 l0_1 l0_2 l0_3 l0_4).bind fun t575 => (if t575 = true then (impl_IsAsynchronous.j0 k (decide ((l0_4.length : Int) > 64)) l0_0 l0_1 l0_2 l0_3 l0_4) else (impl_IsAsynchronous.j0 k true l0_0 l0_1 l0_2 l0_3 l0_4))) else (impl_IsAsynchronous.j0 k true l0_0 l0_1 l0_2 l0_3 l0_4))) else (impl_IsAsynchronous.j0 k true l0_0 l0_1 l0_2 l0_3 l0_4))) else (impl_IsAsynchronous.j0 k true l0_0 l0_1 l0_2 l0_3 l0_4))) = some r := H
  have A4 := Aside0.mk A40
  clear A40
  replace H := Option.bind_eq_some_iff.mp H
  obtain ⟨t572, A50, H⟩ := H
  replace H : (if t572 = true then ((impl_allIn.f l0_1 1 4).bind fun t573 => (if t573 = true then ((impl_isGlobal.f k l0_1 l0_2).bind fun t574 => (if t574 = true then ((impl_goodJoints.f k l0_0 l0_1 l0_2 l0_3 l0_4).bind fun t575 => (if t575 = true then (impl_IsAsynchronous.j0 k (decide ((l0_4.length : Int) > 64)) l0_0 l0_1 l0_2 l0_3 l0_4) else (impl_IsAsynchronous.j0 k true l0_0 l0_1 l0_2 l0_3 l0_4))) else (impl_IsAsynchronous.j0 k true l0_0 l0_1 l0_2 l0_3 l0_4))) else (impl_IsAsynchronous.j0 k true l0_0 l0_1 l0_2 l0_3 l0_4))) else (impl_IsAsynchronous.j0 k true l0_0 l0_1 l0_2 l0_3 l0_4)) = some r := H
  have A5 := Aside0.mk A50
  clear A50
  by_cases c6 : t572 = true
  ·subst c6
   have H1 : ((impl_allIn.f l0_1 1 4).bind fun t573 => (if t573 = true then ((impl_isGlobal.f k l0_1 l0_2).bind fun t574 => (if t574 = true then ((impl_goodJoints.f k l0_0 l0_1 l0_2 l0_3 l0_4).bind fun t575 => (if t575 = true then (impl_IsAsynchronous.j0 k (decide ((l0_4.length : Int) > 64)) l0_0 l0_1 l0_2 l0_3 l0_4) else (impl_IsAsynchronous.j0 k true l0_0 l0_1 l0_2 l0_3 l0_4))) else (impl_IsAsynchronous.j0 k true l0_0 l0_1 l0_2 l0_3 l0_4))) else (impl_IsAsynchronous.j0 k true l0_0 l0_1 l0_2 l0_3 l0_4))) = some r := by rw [if_pos rfl] at H; exact H
   clear H
   have H := H1
   clear H1
   replace H := Option.bind_eq_some_iff.mp H
   obtain ⟨t573, A70, H⟩ := H
   replace H : (if t573 = true then ((impl_isGlobal.f k l0_1 l0_2).bind fun t574 => (if t574 = true then ((impl_goodJoints.f k l0_0 l0_1 l0_2 l0_3 l0_4).bind fun t575 => (if t575 = true then (impl_IsAsynchronous.j0 k (decide ((l0_4.length : Int) > 64)) l0_0 l0_1 l0_2 l0_3 l0_4) else (impl_IsAsynchronous.j0 k true l0_0 l0_1 l0_2 l0_3 l0_4))) else (impl_IsAsynchronous.j0 k true l0_0 l0_1 l0_2 l0_3 l0_4))) else (impl_IsAsynchronous.j0 k true l0_0 l0_1 l0_2 l0_3 l0_4)) = some r := H
   have A7 := Aside0.mk A70
   clear A70
   by_cases c8 : t573 = true
   ·subst c8
    have H1 : ((impl_isGlobal.f k l0_1 l0_2).bind fun t574 => (if t574 = true then ((impl_goodJoints.f k l0_0 l0_1 l0_2 l0_3 l0_4).bind fun t575 => (if t575 = true then (impl_IsAsynchronous.j0 k (decide ((l0_4.length : Int) > 64)) l0_0 l0_1 l0_2 l0_3 l0_4) else (impl_IsAsynchronous.j0 k true l0_0 l0_1 l0_2 l0_3 l0_4))) else (impl_IsAsynchronous.j0 k true l0_0 l0_1 l0_2 l0_3 l0_4))) = some r := by rw [if_pos rfl] at H; exact H
    clear H
    have H := H1
    clear H1
    replace H := Option.bind_eq_some_iff.mp H
    obtain ⟨t574, A90, H⟩ := H
    replace H : (if t574 = true then ((impl_goodJoints.f k l0_0 l0_1 l0_2 l0_3 l0_4).bind fun t575 => (if t575 = true then (impl_IsAsynchronous.j0 k (decide ((l0_4.length : Int) > 64)) l0_0 l0_1 l0_2 l0_3 l0_4) else (impl_IsAsynchronous.j0 k true l0_0 l0_1 l0_2 l0_3 l0_4))) else (impl_IsAsynchronous.j0 k true l0_0 l0_1 l0_2 l0_3 l0_4)) = some r := H
    have A9 := Aside0.mk A90
    clear A90
    by_cases c10 : t574 = true
    ·subst c10
     have H1 : ((impl_goodJoints.f k l0_0 l0_1 l0_2 l0_3 l0_4).bind fun t575 => (if t575 = true then (impl_IsAsynchronous.j0 k (decide ((l0_4.length : Int) > 64)) l0_0 l0_1 l0_2 l0_3 l0_4) else (impl_IsAsynchronous.j0 k true l0_0 l0_1 l0_2 l0_3 l0_4))) = some r := by rw [if_pos rfl] at H; exact H
     clear H
     have H := H1
     clear H1
     replace H := Option.bind_eq_some_iff.mp H
     obtain ⟨t575, A110, H⟩ := H
     replace H : (if t575 = true then (impl_IsAsynchronous.j0 k (decide ((l0_4.length : Int) > 64)) l0_0 l0_1 l0_2 l0_3 l0_4) else (impl_IsAsynchronous.j0 k true l0_0 l0_1 l0_2 l0_3 l0_4)) = some r := H
     have A11 := Aside0.mk A110
     clear A110
     by_cases c12 : t575 = true
     ·subst c12
      have H1 : (impl_IsAsynchronous.j0 k (decide ((l0_4.length : Int) > 64)) l0_0 l0_1 l0_2 l0_3 l0_4) = some r := by rw [if_pos rfl] at H; exact H
      clear H
      have H := H1
      clear H1
      have H' := Aside0.mk H
      clear H
      try go_wp2
      have n0_ := Aside0.mk (blk_drew BK570.out)
      have n1_ := Aside0.mk (below_drew1 HB.out)
      clear BK570
      clear HB
      have BK570 := n0_
      have HB := n1_
      clear n0_ n1_
      refine start_ (n := 32) (S := fun w' => w'.cell? ⟨gb570, 0, none⟩ = some (.slice A0_0 l0_0.length c0_0) ∧ w'.cell? ⟨gb570, 1, none⟩ = some (.slice A0_1 l0_1.length c0_1) ∧ w'.cell? ⟨gb570, 2, none⟩ = some (.slice A0_2 l0_2.length c0_2) ∧ w'.cell? ⟨gb570, 3, none⟩ = some (.slice A0_3 l0_3.length c0_3) ∧ w'.cell? ⟨gb570, 4, none⟩ = some (.slice A0_4 l0_4.length c0_4)) (ds := []) #[false, false, false, false, false, false, false, false, false, false, false, false, false, false, false, false, false, false, false, false, false, false, false, false, false, false, false, false, false, false, false, false] (by kernel_rfl) rfl rfl ⟨(blk_cell BK570.out 0).trans rfl, (blk_cell BK570.out 1).trans rfl, (blk_cell BK570.out 2).trans rfl, (blk_cell BK570.out 3).trans rfl, (blk_cell BK570.out 4).trans rfl⟩ (fun hHeld => ?_); refine with_tabW impl_IsAsynchronous.tab1 impl_IsAsynchronous.bits1 (fun HT_ HW_ => ?_)
      generalize w3.drew = w13 at BK570 HB hHeld ⊢
      refine pureS (i := 0) (N := some 5) (any_of HT_.out (by kernel_rfl)) ?_
      refine pureS (i := 3) (N := some 8) (any_of HT_.out (by kernel_rfl)) ?_
      refine takeS (i := 1) (N := some 6) (take_ofW HT_.out HW_.out (by kernel_rfl)) hHeld ?_
      refine takeS (i := 4) (N := some 9) (take_ofW HT_.out HW_.out (by kernel_rfl)) hHeld ?_
      refine one_ (i := 2) (N := some 7) #[true, true, true, true, true, false, false, false, false, false, false, false, false, false, false, false, false, false, false, false, false, false, false, false, false, false, false, false, false, false, false, false] rfl rfl (one_of HT_.out (by kernel_rfl)) (by decide) (fun K hK => ?_)
      refine goes_ Tryd.func80 (by kernel_rfl) rfl #[.slice A0_1 l0_1.length c0_1] (by rfl) rfl rfl (by (try simp only [List.map_toArray, List.map_cons, List.map_nil]); first | done | rfl | (simp only [List.length_drop, List.length_take]; rfl)) ?_
      with_reducible refine (impl_length_int64_80.calls _ _ l0_1 t571 _ ?side1 ?side2 A4.out).mono ?_
      (case side1 => exact cP (Kd.C_below HR0_1.out HB.out))
      (case side2 => exact HC0_1.out)
      rintro e w' ⟨rfl, ⟨nd, rfl⟩⟩
      refine ⟨_, rfl, ?_⟩
      refine hK.out _ _ ⟨(blk_cell BK570.out 0).trans rfl, (blk_cell BK570.out 1).trans rfl, (blk_cell BK570.out 2).trans rfl, (blk_cell BK570.out 3).trans rfl, (blk_cell BK570.out 4).trans rfl⟩ (fun hHeld => ?_)
      clear hK K
      refine norm_ (a' := ?_) ?_ ?_
      rotate_left
      ·show Act.put _ (some 7) _ = _
       simp only [Act.put, List.setIfInBounds_toArray, List.set_cons_zero, List.set_cons_succ, i64_w, i32_w]
       rfl
      refine one_ (i := 5) (N := some 10) #[true, true, true, true, true, true, false, false, false, false, false, false, false, false, false, false, false, false, false, false, false, false, false, false, false, false, false, false, false, false, false, false] rfl rfl (one_of HT_.out (by kernel_rfl)) (by decide) (fun K hK => ?_)
      refine goes_ Tryd.func79 (by kernel_rfl) rfl #[.int .i64 t571, .slice A0_0 l0_0.length c0_0] (by rfl) rfl rfl (by (try simp only [List.map_toArray, List.map_cons, List.map_nil]); first | done | rfl | (simp only [List.length_drop, List.length_take]; rfl)) ?_
      with_reducible refine (impl_arePlaces.calls t571 _ _ l0_0 true _ ?side1 ?side2 A5.out).mono ?_
      (case side1 => exact cP (Kd.C_below HR0_0.out (bW)))
      (case side2 => exact HC0_0.out)
      rintro e w14 ⟨rfl, hb⟩
      refine ⟨_, rfl, ?_⟩
      have n0_ := Aside0.mk (blkB BK570.out hb)
      have n1_ := Aside0.mk (below_step (bW) hb)
      clear BK570
      clear HB
      have BK570 := n0_
      have HB := n1_
      clear n0_ n1_
      (try clear hb)
      (try clear hb2)
      (try clear hk)
      (try clear hi)
      refine hK.out _ _ ⟨(blk_cell BK570.out 0).trans rfl, (blk_cell BK570.out 1).trans rfl, (blk_cell BK570.out 2).trans rfl, (blk_cell BK570.out 3).trans rfl, (blk_cell BK570.out 4).trans rfl⟩ (fun hHeld => ?_)
      clear hK K
      refine norm_ (a' := ?_) ?_ ?_
      rotate_left
      ·show Act.put _ (some 10) _ = _
       simp only [Act.put, List.setIfInBounds_toArray, List.set_cons_zero, List.set_cons_succ, i64_w, i32_w]
       rfl
      refine pureS (i := 6) (N := some 11) (any_of HT_.out (by kernel_rfl)) ?_
      refine pureS (i := 7) (N := some 12) (any_of HT_.out (by kernel_rfl)) ?_
      refine pureS (i := 8) (N := some 13) (any_of HT_.out (by kernel_rfl)) ?_
      refine takeS (i := 9) (N := some 14) (take_ofW HT_.out HW_.out (by kernel_rfl)) hHeld ?_
      refine one_ (i := 10) (N := some 15) #[true, true, true, true, true, true, true, true, true, true, true, false, false, false, false, false, false, false, false, false, false, false, false, false, false, false, false, false, false, false, false, false] rfl rfl (one_of HT_.out (by kernel_rfl)) (by decide) (fun K hK => ?_)
      refine goes_ Tryd.func81 (by kernel_rfl) rfl #[.slice A0_1 l0_1.length c0_1, .int .i64 1, .int .i64 4] (by rfl) rfl rfl (by (try simp only [List.map_toArray, List.map_cons, List.map_nil]); first | done | rfl | (simp only [List.length_drop, List.length_take]; rfl)) ?_
      with_reducible refine (impl_allIn.calls _ _ l0_1 1 4 true _ ?side1 ?side2 A7.out).mono ?_
      (case side1 => exact cP (Kd.C_below HR0_1.out HB.out))
      (case side2 => exact HC0_1.out)
      rintro e w15 ⟨rfl, hb⟩
      refine ⟨_, rfl, ?_⟩
      have n0_ := Aside0.mk (blkB BK570.out hb)
      have n1_ := Aside0.mk (below_step (bW) hb)
      clear BK570
      clear HB
      have BK570 := n0_
      have HB := n1_
      clear n0_ n1_
      (try clear hb)
      (try clear hb2)
      (try clear hk)
      (try clear hi)
      refine hK.out _ _ ⟨(blk_cell BK570.out 0).trans rfl, (blk_cell BK570.out 1).trans rfl, (blk_cell BK570.out 2).trans rfl, (blk_cell BK570.out 3).trans rfl, (blk_cell BK570.out 4).trans rfl⟩ (fun hHeld => ?_)
      clear hK K
      refine norm_ (a' := ?_) ?_ ?_
      rotate_left
      ·show Act.put _ (some 15) _ = _
       simp only [Act.put, List.setIfInBounds_toArray, List.set_cons_zero, List.set_cons_succ, i64_w, i32_w]
       rfl
      refine pureS (i := 11) (N := some 16) (any_of HT_.out (by kernel_rfl)) ?_
      refine pureS (i := 12) (N := some 17) (any_of HT_.out (by kernel_rfl)) ?_
      refine pureS (i := 13) (N := some 18) (any_of HT_.out (by kernel_rfl)) ?_
      refine pureS (i := 14) (N := some 19) (any_of HT_.out (by kernel_rfl)) ?_
      refine pureS (i := 16) (N := some 21) (any_of HT_.out (by kernel_rfl)) ?_
      refine takeS (i := 15) (N := some 20) (take_ofW HT_.out HW_.out (by kernel_rfl)) hHeld ?_
      refine takeS (i := 17) (N := some 22) (take_ofW HT_.out HW_.out (by kernel_rfl)) hHeld ?_
      refine one_ (i := 18) (N := some 23) #[true, true, true, true, true, true, true, true, true, true, true, true, true, true, true, true, true, true, true, false, false, false, false, false, false, false, false, false, false, false, false, false] rfl rfl (one_of HT_.out (by kernel_rfl)) (by decide) (fun K hK => ?_)
      refine goes_ Tryd.func82 (by kernel_rfl) rfl #[.slice A0_1 l0_1.length c0_1, .slice A0_2 l0_2.length c0_2] (by rfl) rfl rfl (by (try simp only [List.map_toArray, List.map_cons, List.map_nil]); first | done | rfl | (simp only [List.length_drop, List.length_take]; rfl)) ?_
      with_reducible refine (impl_isGlobal.calls k _ _ l0_1 _ _ l0_2 true _ ?side1 ?side2 ?side3 ?side4 A9.out).mono ?_
      (case side1 => exact cP (Kd.C_below HR0_1.out HB.out))
      (case side2 => exact HC0_1.out)
      (case side3 => exact cP (Kd.C_below HR0_2.out HB.out))
      (case side4 => exact HC0_2.out)
      rintro e w' ⟨rfl, ⟨nd, rfl⟩⟩
      refine ⟨_, rfl, ?_⟩
      refine hK.out _ _ ⟨(blk_cell BK570.out 0).trans rfl, (blk_cell BK570.out 1).trans rfl, (blk_cell BK570.out 2).trans rfl, (blk_cell BK570.out 3).trans rfl, (blk_cell BK570.out 4).trans rfl⟩ (fun hHeld => ?_)
      clear hK K
      refine norm_ (a' := ?_) ?_ ?_
      rotate_left
      ·show Act.put _ (some 23) _ = _
       simp only [Act.put, List.setIfInBounds_toArray, List.set_cons_zero, List.set_cons_succ, i64_w, i32_w]
       rfl
      refine pureS (i := 19) (N := some 24) (any_of HT_.out (by kernel_rfl)) ?_
      refine pureS (i := 20) (N := some 25) (any_of HT_.out (by kernel_rfl)) ?_
      refine pureS (i := 21) (N := some 26) (any_of HT_.out (by kernel_rfl)) ?_
      refine takeS (i := 22) (N := some 27) (take_ofW HT_.out HW_.out (by kernel_rfl)) hHeld ?_
      refine one_ (i := 23) (N := some 28) #[true, true, true, true, true, true, true, true, true, true, true, true, true, true, true, true, true, true, true, true, true, true, true, true, false, false, false, false, false, false, false, false] rfl rfl (one_of HT_.out (by kernel_rfl)) (by decide) (fun K hK => ?_)
      refine goes_ Tryd.func83 (by kernel_rfl) rfl #[.agg #[.slice A0_0 l0_0.length c0_0, .slice A0_1 l0_1.length c0_1, .slice A0_2 l0_2.length c0_2, .slice A0_3 l0_3.length c0_3, .slice A0_4 l0_4.length c0_4]] (by rfl) rfl rfl (by (try simp only [List.map_toArray, List.map_cons, List.map_nil]); first | done | rfl | (simp only [List.length_drop, List.length_take]; rfl)) ?_
      with_reducible refine (impl_goodJoints.calls k _ _ l0_0 _ _ l0_1 _ _ l0_2 _ _ l0_3 _ _ l0_4 true _ ?side1 ?side2 ?side3 ?side4 ?side5 ?side6 ?side7 ?side8 ?side9 ?side10 A11.out (tabW HTab.out)).mono ?_
      (case side1 => exact cP (Kd.C_below HR0_0.out (bW)))
      (case side2 => exact HC0_0.out)
      (case side3 => exact cP (Kd.C_below HR0_1.out (bW)))
      (case side4 => exact HC0_1.out)
      (case side5 => exact cP (Kd.C_below HR0_2.out (bW)))
      (case side6 => exact HC0_2.out)
      (case side7 => exact cP (Kd.C_below HR0_3.out (bW)))
      (case side8 => exact HC0_3.out)
      (case side9 => exact cP (Kd.C_below HR0_4.out (bW)))
      (case side10 => exact HC0_4.out)
      rintro e w16 ⟨rfl, hb⟩
      refine ⟨_, rfl, ?_⟩
      have n0_ := Aside0.mk (blkB BK570.out hb)
      have n1_ := Aside0.mk (below_step (bW) hb)
      clear BK570
      clear HB
      have BK570 := n0_
      have HB := n1_
      clear n0_ n1_
      (try clear hb)
      (try clear hb2)
      (try clear hk)
      (try clear hi)
      refine hK.out _ _ ⟨(blk_cell BK570.out 0).trans rfl, (blk_cell BK570.out 1).trans rfl, (blk_cell BK570.out 2).trans rfl, (blk_cell BK570.out 3).trans rfl, (blk_cell BK570.out 4).trans rfl⟩ (fun hHeld => ?_)
      clear hK K
      refine norm_ (a' := ?_) ?_ ?_
      rotate_left
      ·show Act.put _ (some 28) _ = _
       simp only [Act.put, List.setIfInBounds_toArray, List.set_cons_zero, List.set_cons_succ, i64_w, i32_w]
       rfl
      refine pureS (i := 24) (N := some 29) (any_of HT_.out (by kernel_rfl)) ?_
      refine pureS (i := 25) (N := some 30) (any_of HT_.out (by kernel_rfl)) ?_
      refine pureS (i := 26) (N := some 31) (any_of HT_.out (by kernel_rfl)) ?_
      refine pureS (i := 27) (N := some 32) (any_of HT_.out (by kernel_rfl)) ?_
      refine takeS (i := 28) (N := some 33) (take_ofW HT_.out HW_.out (by kernel_rfl)) hHeld ?_
      refine pureS (i := 29) (N := some 34) (any_of HT_.out (by kernel_rfl)) ?_
      refine pureS (i := 30) (N := some 35) (any_of HT_.out (by kernel_rfl)) ?_
      refine pureS (i := 31) (N := some 36) (any_of HT_.out (by kernel_rfl)) ?_
      refine done_ (done_of HT_.out (by kernel_rfl)) ?_
      try go_wp2
      go_meet
      case rel => exact ⟨_, (decide ((l0_4.length : Int) > 64)), (eW), H', ⟨by first | omega | exact Nat.le_refl _⟩, ⟨(bP BK570.out)⟩, ⟨bW⟩⟩
     ·replace c12 := Bool.eq_false_iff.mpr c12
      subst c12
      have H1 : (impl_IsAsynchronous.j0 k true l0_0 l0_1 l0_2 l0_3 l0_4) = some r := by rw [if_neg (show ¬ (false = true) by decide)] at H; exact H
      clear H
      have H := H1
      clear H1
      have H' := Aside0.mk H
      clear H
      try go_wp2
      have n0_ := Aside0.mk (blk_drew BK570.out)
      have n1_ := Aside0.mk (below_drew1 HB.out)
      clear BK570
      clear HB
      have BK570 := n0_
      have HB := n1_
      clear n0_ n1_
      refine start_ (n := 32) (S := fun w' => w'.cell? ⟨gb570, 0, none⟩ = some (.slice A0_0 l0_0.length c0_0) ∧ w'.cell? ⟨gb570, 1, none⟩ = some (.slice A0_1 l0_1.length c0_1) ∧ w'.cell? ⟨gb570, 2, none⟩ = some (.slice A0_2 l0_2.length c0_2) ∧ w'.cell? ⟨gb570, 3, none⟩ = some (.slice A0_3 l0_3.length c0_3) ∧ w'.cell? ⟨gb570, 4, none⟩ = some (.slice A0_4 l0_4.length c0_4)) (ds := []) #[false, false, false, false, false, false, false, false, false, false, false, false, false, false, false, false, false, false, false, false, false, false, false, false, false, false, false, false, false, false, false, false] (by kernel_rfl) rfl rfl ⟨(blk_cell BK570.out 0).trans rfl, (blk_cell BK570.out 1).trans rfl, (blk_cell BK570.out 2).trans rfl, (blk_cell BK570.out 3).trans rfl, (blk_cell BK570.out 4).trans rfl⟩ (fun hHeld => ?_); refine with_tabW impl_IsAsynchronous.tab1 impl_IsAsynchronous.bits1 (fun HT_ HW_ => ?_)
      generalize w3.drew = w17 at BK570 HB hHeld ⊢
      refine pureS (i := 0) (N := some 5) (any_of HT_.out (by kernel_rfl)) ?_
      refine pureS (i := 3) (N := some 8) (any_of HT_.out (by kernel_rfl)) ?_
      refine takeS (i := 1) (N := some 6) (take_ofW HT_.out HW_.out (by kernel_rfl)) hHeld ?_
      refine takeS (i := 4) (N := some 9) (take_ofW HT_.out HW_.out (by kernel_rfl)) hHeld ?_
      refine one_ (i := 2) (N := some 7) #[true, true, true, true, true, false, false, false, false, false, false, false, false, false, false, false, false, false, false, false, false, false, false, false, false, false, false, false, false, false, false, false] rfl rfl (one_of HT_.out (by kernel_rfl)) (by decide) (fun K hK => ?_)
      refine goes_ Tryd.func80 (by kernel_rfl) rfl #[.slice A0_1 l0_1.length c0_1] (by rfl) rfl rfl (by (try simp only [List.map_toArray, List.map_cons, List.map_nil]); first | done | rfl | (simp only [List.length_drop, List.length_take]; rfl)) ?_
      with_reducible refine (impl_length_int64_80.calls _ _ l0_1 t571 _ ?side1 ?side2 A4.out).mono ?_
      (case side1 => exact cP (Kd.C_below HR0_1.out HB.out))
      (case side2 => exact HC0_1.out)
      rintro e w' ⟨rfl, ⟨nd, rfl⟩⟩
      refine ⟨_, rfl, ?_⟩
      refine hK.out _ _ ⟨(blk_cell BK570.out 0).trans rfl, (blk_cell BK570.out 1).trans rfl, (blk_cell BK570.out 2).trans rfl, (blk_cell BK570.out 3).trans rfl, (blk_cell BK570.out 4).trans rfl⟩ (fun hHeld => ?_)
      clear hK K
      refine norm_ (a' := ?_) ?_ ?_
      rotate_left
      ·show Act.put _ (some 7) _ = _
       simp only [Act.put, List.setIfInBounds_toArray, List.set_cons_zero, List.set_cons_succ, i64_w, i32_w]
       rfl
      refine one_ (i := 5) (N := some 10) #[true, true, true, true, true, true, false, false, false, false, false, false, false, false, false, false, false, false, false, false, false, false, false, false, false, false, false, false, false, false, false, false] rfl rfl (one_of HT_.out (by kernel_rfl)) (by decide) (fun K hK => ?_)
      refine goes_ Tryd.func79 (by kernel_rfl) rfl #[.int .i64 t571, .slice A0_0 l0_0.length c0_0] (by rfl) rfl rfl (by (try simp only [List.map_toArray, List.map_cons, List.map_nil]); first | done | rfl | (simp only [List.length_drop, List.length_take]; rfl)) ?_
      with_reducible refine (impl_arePlaces.calls t571 _ _ l0_0 true _ ?side1 ?side2 A5.out).mono ?_
      (case side1 => exact cP (Kd.C_below HR0_0.out (bW)))
      (case side2 => exact HC0_0.out)
      rintro e w18 ⟨rfl, hb⟩
      refine ⟨_, rfl, ?_⟩
      have n0_ := Aside0.mk (blkB BK570.out hb)
      have n1_ := Aside0.mk (below_step (bW) hb)
      clear BK570
      clear HB
      have BK570 := n0_
      have HB := n1_
      clear n0_ n1_
      (try clear hb)
      (try clear hb2)
      (try clear hk)
      (try clear hi)
      refine hK.out _ _ ⟨(blk_cell BK570.out 0).trans rfl, (blk_cell BK570.out 1).trans rfl, (blk_cell BK570.out 2).trans rfl, (blk_cell BK570.out 3).trans rfl, (blk_cell BK570.out 4).trans rfl⟩ (fun hHeld => ?_)
      clear hK K
      refine norm_ (a' := ?_) ?_ ?_
      rotate_left
      ·show Act.put _ (some 10) _ = _
       simp only [Act.put, List.setIfInBounds_toArray, List.set_cons_zero, List.set_cons_succ, i64_w, i32_w]
       rfl
      refine pureS (i := 6) (N := some 11) (any_of HT_.out (by kernel_rfl)) ?_
      refine pureS (i := 7) (N := some 12) (any_of HT_.out (by kernel_rfl)) ?_
      refine pureS (i := 8) (N := some 13) (any_of HT_.out (by kernel_rfl)) ?_
      refine takeS (i := 9) (N := some 14) (take_ofW HT_.out HW_.out (by kernel_rfl)) hHeld ?_
      refine one_ (i := 10) (N := some 15) #[true, true, true, true, true, true, true, true, true, true, true, false, false, false, false, false, false, false, false, false, false, false, false, false, false, false, false, false, false, false, false, false] rfl rfl (one_of HT_.out (by kernel_rfl)) (by decide) (fun K hK => ?_)
      refine goes_ Tryd.func81 (by kernel_rfl) rfl #[.slice A0_1 l0_1.length c0_1, .int .i64 1, .int .i64 4] (by rfl) rfl rfl (by (try simp only [List.map_toArray, List.map_cons, List.map_nil]); first | done | rfl | (simp only [List.length_drop, List.length_take]; rfl)) ?_
      with_reducible refine (impl_allIn.calls _ _ l0_1 1 4 true _ ?side1 ?side2 A7.out).mono ?_
      (case side1 => exact cP (Kd.C_below HR0_1.out HB.out))
      (case side2 => exact HC0_1.out)
      rintro e w19 ⟨rfl, hb⟩
      refine ⟨_, rfl, ?_⟩
      have n0_ := Aside0.mk (blkB BK570.out hb)
      have n1_ := Aside0.mk (below_step (bW) hb)
      clear BK570
      clear HB
      have BK570 := n0_
      have HB := n1_
      clear n0_ n1_
      (try clear hb)
      (try clear hb2)
      (try clear hk)
      (try clear hi)
      refine hK.out _ _ ⟨(blk_cell BK570.out 0).trans rfl, (blk_cell BK570.out 1).trans rfl, (blk_cell BK570.out 2).trans rfl, (blk_cell BK570.out 3).trans rfl, (blk_cell BK570.out 4).trans rfl⟩ (fun hHeld => ?_)
      clear hK K
      refine norm_ (a' := ?_) ?_ ?_
      rotate_left
      ·show Act.put _ (some 15) _ = _
       simp only [Act.put, List.setIfInBounds_toArray, List.set_cons_zero, List.set_cons_succ, i64_w, i32_w]
       rfl
      refine pureS (i := 11) (N := some 16) (any_of HT_.out (by kernel_rfl)) ?_
      refine pureS (i := 12) (N := some 17) (any_of HT_.out (by kernel_rfl)) ?_
      refine pureS (i := 13) (N := some 18) (any_of HT_.out (by kernel_rfl)) ?_
      refine pureS (i := 14) (N := some 19) (any_of HT_.out (by kernel_rfl)) ?_
      refine pureS (i := 16) (N := some 21) (any_of HT_.out (by kernel_rfl)) ?_
      refine takeS (i := 15) (N := some 20) (take_ofW HT_.out HW_.out (by kernel_rfl)) hHeld ?_
      refine takeS (i := 17) (N := some 22) (take_ofW HT_.out HW_.out (by kernel_rfl)) hHeld ?_
      refine one_ (i := 18) (N := some 23) #[true, true, true, true, true, true, true, true, true, true, true, true, true, true, true, true, true, true, true, false, false, false, false, false, false, false, false, false, false, false, false, false] rfl rfl (one_of HT_.out (by kernel_rfl)) (by decide) (fun K hK => ?_)
      refine goes_ Tryd.func82 (by kernel_rfl) rfl #[.slice A0_1 l0_1.length c0_1, .slice A0_2 l0_2.length c0_2] (by rfl) rfl rfl (by (try simp only [List.map_toArray, List.map_cons, List.map_nil]); first | done | rfl | (simp only [List.length_drop, List.length_take]; rfl)) ?_
      with_reducible refine (impl_isGlobal.calls k _ _ l0_1 _ _ l0_2 true _ ?side1 ?side2 ?side3 ?side4 A9.out).mono ?_
      (case side1 => exact cP (Kd.C_below HR0_1.out HB.out))
      (case side2 => exact HC0_1.out)
      (case side3 => exact cP (Kd.C_below HR0_2.out HB.out))
      (case side4 => exact HC0_2.out)
      rintro e w' ⟨rfl, ⟨nd, rfl⟩⟩
      refine ⟨_, rfl, ?_⟩
      refine hK.out _ _ ⟨(blk_cell BK570.out 0).trans rfl, (blk_cell BK570.out 1).trans rfl, (blk_cell BK570.out 2).trans rfl, (blk_cell BK570.out 3).trans rfl, (blk_cell BK570.out 4).trans rfl⟩ (fun hHeld => ?_)
      clear hK K
      refine norm_ (a' := ?_) ?_ ?_
      rotate_left
      ·show Act.put _ (some 23) _ = _
       simp only [Act.put, List.setIfInBounds_toArray, List.set_cons_zero, List.set_cons_succ, i64_w, i32_w]
       rfl
      refine pureS (i := 19) (N := some 24) (any_of HT_.out (by kernel_rfl)) ?_
      refine pureS (i := 20) (N := some 25) (any_of HT_.out (by kernel_rfl)) ?_
      refine pureS (i := 21) (N := some 26) (any_of HT_.out (by kernel_rfl)) ?_
      refine takeS (i := 22) (N := some 27) (take_ofW HT_.out HW_.out (by kernel_rfl)) hHeld ?_
      refine one_ (i := 23) (N := some 28) #[true, true, true, true, true, true, true, true, true, true, true, true, true, true, true, true, true, true, true, true, true, true, true, true, false, false, false, false, false, false, false, false] rfl rfl (one_of HT_.out (by kernel_rfl)) (by decide) (fun K hK => ?_)
      refine goes_ Tryd.func83 (by kernel_rfl) rfl #[.agg #[.slice A0_0 l0_0.length c0_0, .slice A0_1 l0_1.length c0_1, .slice A0_2 l0_2.length c0_2, .slice A0_3 l0_3.length c0_3, .slice A0_4 l0_4.length c0_4]] (by rfl) rfl rfl (by (try simp only [List.map_toArray, List.map_cons, List.map_nil]); first | done | rfl | (simp only [List.length_drop, List.length_take]; rfl)) ?_
      with_reducible refine (impl_goodJoints.calls k _ _ l0_0 _ _ l0_1 _ _ l0_2 _ _ l0_3 _ _ l0_4 false _ ?side1 ?side2 ?side3 ?side4 ?side5 ?side6 ?side7 ?side8 ?side9 ?side10 A11.out (tabW HTab.out)).mono ?_
      (case side1 => exact cP (Kd.C_below HR0_0.out (bW)))
      (case side2 => exact HC0_0.out)
      (case side3 => exact cP (Kd.C_below HR0_1.out (bW)))
      (case side4 => exact HC0_1.out)
      (case side5 => exact cP (Kd.C_below HR0_2.out (bW)))
      (case side6 => exact HC0_2.out)
      (case side7 => exact cP (Kd.C_below HR0_3.out (bW)))
      (case side8 => exact HC0_3.out)
      (case side9 => exact cP (Kd.C_below HR0_4.out (bW)))
      (case side10 => exact HC0_4.out)
      rintro e w20 ⟨rfl, hb⟩
      refine ⟨_, rfl, ?_⟩
      have n0_ := Aside0.mk (blkB BK570.out hb)
      have n1_ := Aside0.mk (below_step (bW) hb)
      clear BK570
      clear HB
      have BK570 := n0_
      have HB := n1_
      clear n0_ n1_
      (try clear hb)
      (try clear hb2)
      (try clear hk)
      (try clear hi)
      refine hK.out _ _ ⟨(blk_cell BK570.out 0).trans rfl, (blk_cell BK570.out 1).trans rfl, (blk_cell BK570.out 2).trans rfl, (blk_cell BK570.out 3).trans rfl, (blk_cell BK570.out 4).trans rfl⟩ (fun hHeld => ?_)
      clear hK K
      refine norm_ (a' := ?_) ?_ ?_
      rotate_left
      ·show Act.put _ (some 28) _ = _
       simp only [Act.put, List.setIfInBounds_toArray, List.set_cons_zero, List.set_cons_succ, i64_w, i32_w]
       rfl
      refine pureS (i := 24) (N := some 29) (any_of HT_.out (by kernel_rfl)) ?_
      refine pureS (i := 25) (N := some 30) (any_of HT_.out (by kernel_rfl)) ?_
      refine pureS (i := 26) (N := some 31) (any_of HT_.out (by kernel_rfl)) ?_
      refine pureU (i := 27) (N := some 32) (any_of HT_.out (by kernel_rfl)) ?_
      refine pureU (i := 28) (N := some 33) (any_of HT_.out (by kernel_rfl)) ?_
      refine pureU (i := 29) (N := some 34) (any_of HT_.out (by kernel_rfl)) ?_
      refine pureU (i := 30) (N := some 35) (any_of HT_.out (by kernel_rfl)) ?_
      refine pureS (i := 31) (N := some 36) (any_of HT_.out (by kernel_rfl)) ?_
      refine done_ (done_of HT_.out (by kernel_rfl)) ?_
      try go_wp2
      go_meet
      case rel => exact ⟨_, (true), (eW), H', ⟨by first | omega | exact Nat.le_refl _⟩, ⟨(bP BK570.out)⟩, ⟨bW⟩⟩
    ·replace c10 := Bool.eq_false_iff.mpr c10
     subst c10
     have H1 : (impl_IsAsynchronous.j0 k true l0_0 l0_1 l0_2 l0_3 l0_4) = some r := by rw [if_neg (show ¬ (false = true) by decide)] at H; exact H
     clear H
     have H := H1
     clear H1
     have H' := Aside0.mk H
     clear H
     try go_wp2
     have n0_ := Aside0.mk (blk_drew BK570.out)
     have n1_ := Aside0.mk (below_drew1 HB.out)
     clear BK570
     clear HB
     have BK570 := n0_
     have HB := n1_
     clear n0_ n1_
     refine start_ (n := 32) (S := fun w' => w'.cell? ⟨gb570, 0, none⟩ = some (.slice A0_0 l0_0.length c0_0) ∧ w'.cell? ⟨gb570, 1, none⟩ = some (.slice A0_1 l0_1.length c0_1) ∧ w'.cell? ⟨gb570, 2, none⟩ = some (.slice A0_2 l0_2.length c0_2) ∧ w'.cell? ⟨gb570, 3, none⟩ = some (.slice A0_3 l0_3.length c0_3) ∧ w'.cell? ⟨gb570, 4, none⟩ = some (.slice A0_4 l0_4.length c0_4)) (ds := []) #[false, false, false, false, false, false, false, false, false, false, false, false, false, false, false, false, false, false, false, false, false, false, false, false, false, false, false, false, false, false, false, false] (by kernel_rfl) rfl rfl ⟨(blk_cell BK570.out 0).trans rfl, (blk_cell BK570.out 1).trans rfl, (blk_cell BK570.out 2).trans rfl, (blk_cell BK570.out 3).trans rfl, (blk_cell BK570.out 4).trans rfl⟩ (fun hHeld => ?_); refine with_tabW impl_IsAsynchronous.tab1 impl_IsAsynchronous.bits1 (fun HT_ HW_ => ?_)
     generalize w3.drew = w21 at BK570 HB hHeld ⊢
     refine pureS (i := 0) (N := some 5) (any_of HT_.out (by kernel_rfl)) ?_
     refine pureS (i := 3) (N := some 8) (any_of HT_.out (by kernel_rfl)) ?_
     refine takeS (i := 1) (N := some 6) (take_ofW HT_.out HW_.out (by kernel_rfl)) hHeld ?_
     refine takeS (i := 4) (N := some 9) (take_ofW HT_.out HW_.out (by kernel_rfl)) hHeld ?_
     refine one_ (i := 2) (N := some 7) #[true, true, true, true, true, false, false, false, false, false, false, false, false, false, false, false, false, false, false, false, false, false, false, false, false, false, false, false, false, false, false, false] rfl rfl (one_of HT_.out (by kernel_rfl)) (by decide) (fun K hK => ?_)
     refine goes_ Tryd.func80 (by kernel_rfl) rfl #[.slice A0_1 l0_1.length c0_1] (by rfl) rfl rfl (by (try simp only [List.map_toArray, List.map_cons, List.map_nil]); first | done | rfl | (simp only [List.length_drop, List.length_take]; rfl)) ?_
     with_reducible refine (impl_length_int64_80.calls _ _ l0_1 t571 _ ?side1 ?side2 A4.out).mono ?_
     (case side1 => exact cP (Kd.C_below HR0_1.out HB.out))
     (case side2 => exact HC0_1.out)
     rintro e w' ⟨rfl, ⟨nd, rfl⟩⟩
     refine ⟨_, rfl, ?_⟩
     refine hK.out _ _ ⟨(blk_cell BK570.out 0).trans rfl, (blk_cell BK570.out 1).trans rfl, (blk_cell BK570.out 2).trans rfl, (blk_cell BK570.out 3).trans rfl, (blk_cell BK570.out 4).trans rfl⟩ (fun hHeld => ?_)
     clear hK K
     refine norm_ (a' := ?_) ?_ ?_
     rotate_left
     ·show Act.put _ (some 7) _ = _
      simp only [Act.put, List.setIfInBounds_toArray, List.set_cons_zero, List.set_cons_succ, i64_w, i32_w]
      rfl
     refine one_ (i := 5) (N := some 10) #[true, true, true, true, true, true, false, false, false, false, false, false, false, false, false, false, false, false, false, false, false, false, false, false, false, false, false, false, false, false, false, false] rfl rfl (one_of HT_.out (by kernel_rfl)) (by decide) (fun K hK => ?_)
     refine goes_ Tryd.func79 (by kernel_rfl) rfl #[.int .i64 t571, .slice A0_0 l0_0.length c0_0] (by rfl) rfl rfl (by (try simp only [List.map_toArray, List.map_cons, List.map_nil]); first | done | rfl | (simp only [List.length_drop, List.length_take]; rfl)) ?_
     with_reducible refine (impl_arePlaces.calls t571 _ _ l0_0 true _ ?side1 ?side2 A5.out).mono ?_
     (case side1 => exact cP (Kd.C_below HR0_0.out (bW)))
     (case side2 => exact HC0_0.out)
     rintro e w22 ⟨rfl, hb⟩
     refine ⟨_, rfl, ?_⟩
     have n0_ := Aside0.mk (blkB BK570.out hb)
     have n1_ := Aside0.mk (below_step (bW) hb)
     clear BK570
     clear HB
     have BK570 := n0_
     have HB := n1_
     clear n0_ n1_
     (try clear hb)
     (try clear hb2)
     (try clear hk)
     (try clear hi)
     refine hK.out _ _ ⟨(blk_cell BK570.out 0).trans rfl, (blk_cell BK570.out 1).trans rfl, (blk_cell BK570.out 2).trans rfl, (blk_cell BK570.out 3).trans rfl, (blk_cell BK570.out 4).trans rfl⟩ (fun hHeld => ?_)
     clear hK K
     refine norm_ (a' := ?_) ?_ ?_
     rotate_left
     ·show Act.put _ (some 10) _ = _
      simp only [Act.put, List.setIfInBounds_toArray, List.set_cons_zero, List.set_cons_succ, i64_w, i32_w]
      rfl
     refine pureS (i := 6) (N := some 11) (any_of HT_.out (by kernel_rfl)) ?_
     refine pureS (i := 7) (N := some 12) (any_of HT_.out (by kernel_rfl)) ?_
     refine pureS (i := 8) (N := some 13) (any_of HT_.out (by kernel_rfl)) ?_
     refine takeS (i := 9) (N := some 14) (take_ofW HT_.out HW_.out (by kernel_rfl)) hHeld ?_
     refine one_ (i := 10) (N := some 15) #[true, true, true, true, true, true, true, true, true, true, true, false, false, false, false, false, false, false, false, false, false, false, false, false, false, false, false, false, false, false, false, false] rfl rfl (one_of HT_.out (by kernel_rfl)) (by decide) (fun K hK => ?_)
     refine goes_ Tryd.func81 (by kernel_rfl) rfl #[.slice A0_1 l0_1.length c0_1, .int .i64 1, .int .i64 4] (by rfl) rfl rfl (by (try simp only [List.map_toArray, List.map_cons, List.map_nil]); first | done | rfl | (simp only [List.length_drop, List.length_take]; rfl)) ?_
     with_reducible refine (impl_allIn.calls _ _ l0_1 1 4 true _ ?side1 ?side2 A7.out).mono ?_
     (case side1 => exact cP (Kd.C_below HR0_1.out HB.out))
     (case side2 => exact HC0_1.out)
     rintro e w23 ⟨rfl, hb⟩
     refine ⟨_, rfl, ?_⟩
     have n0_ := Aside0.mk (blkB BK570.out hb)
     have n1_ := Aside0.mk (below_step (bW) hb)
     clear BK570
     clear HB
     have BK570 := n0_
     have HB := n1_
     clear n0_ n1_
     (try clear hb)
     (try clear hb2)
     (try clear hk)
     (try clear hi)
     refine hK.out _ _ ⟨(blk_cell BK570.out 0).trans rfl, (blk_cell BK570.out 1).trans rfl, (blk_cell BK570.out 2).trans rfl, (blk_cell BK570.out 3).trans rfl, (blk_cell BK570.out 4).trans rfl⟩ (fun hHeld => ?_)
     clear hK K
     refine norm_ (a' := ?_) ?_ ?_
     rotate_left
     ·show Act.put _ (some 15) _ = _
      simp only [Act.put, List.setIfInBounds_toArray, List.set_cons_zero, List.set_cons_succ, i64_w, i32_w]
      rfl
     refine pureS (i := 11) (N := some 16) (any_of HT_.out (by kernel_rfl)) ?_
     refine pureS (i := 12) (N := some 17) (any_of HT_.out (by kernel_rfl)) ?_
     refine pureS (i := 13) (N := some 18) (any_of HT_.out (by kernel_rfl)) ?_
     refine pureS (i := 14) (N := some 19) (any_of HT_.out (by kernel_rfl)) ?_
     refine pureS (i := 16) (N := some 21) (any_of HT_.out (by kernel_rfl)) ?_
     refine takeS (i := 15) (N := some 20) (take_ofW HT_.out HW_.out (by kernel_rfl)) hHeld ?_
     refine takeS (i := 17) (N := some 22) (take_ofW HT_.out HW_.out (by kernel_rfl)) hHeld ?_
     refine one_ (i := 18) (N := some 23) #[true, true, true, true, true, true, true, true, true, true, true, true, true, true, true, true, true, true, true, false, false, false, false, false, false, false, false, false, false, false, false, false] rfl rfl (one_of HT_.out (by kernel_rfl)) (by decide) (fun K hK => ?_)
     refine goes_ Tryd.func82 (by kernel_rfl) rfl #[.slice A0_1 l0_1.length c0_1, .slice A0_2 l0_2.length c0_2] (by rfl) rfl rfl (by (try simp only [List.map_toArray, List.map_cons, List.map_nil]); first | done | rfl | (simp only [List.length_drop, List.length_take]; rfl)) ?_
     with_reducible refine (impl_isGlobal.calls k _ _ l0_1 _ _ l0_2 false _ ?side1 ?side2 ?side3 ?side4 A9.out).mono ?_
     (case side1 => exact cP (Kd.C_below HR0_1.out HB.out))
     (case side2 => exact HC0_1.out)
     (case side3 => exact cP (Kd.C_below HR0_2.out HB.out))
     (case side4 => exact HC0_2.out)
     rintro e w' ⟨rfl, ⟨nd, rfl⟩⟩
     refine ⟨_, rfl, ?_⟩
     refine hK.out _ _ ⟨(blk_cell BK570.out 0).trans rfl, (blk_cell BK570.out 1).trans rfl, (blk_cell BK570.out 2).trans rfl, (blk_cell BK570.out 3).trans rfl, (blk_cell BK570.out 4).trans rfl⟩ (fun hHeld => ?_)
     clear hK K
     refine norm_ (a' := ?_) ?_ ?_
     rotate_left
     ·show Act.put _ (some 23) _ = _
      simp only [Act.put, List.setIfInBounds_toArray, List.set_cons_zero, List.set_cons_succ, i64_w, i32_w]
      rfl
     refine pureS (i := 19) (N := some 24) (any_of HT_.out (by kernel_rfl)) ?_
     refine pureS (i := 20) (N := some 25) (any_of HT_.out (by kernel_rfl)) ?_
     refine pureS (i := 21) (N := some 26) (any_of HT_.out (by kernel_rfl)) ?_
     refine pureU (i := 22) (N := some 27) (any_of HT_.out (by kernel_rfl)) ?_
     refine pureU (i := 23) (N := some 28) (any_of HT_.out (by kernel_rfl)) ?_
     refine pureU (i := 24) (N := some 29) (any_of HT_.out (by kernel_rfl)) ?_
     refine pureS (i := 25) (N := some 30) (any_of HT_.out (by kernel_rfl)) ?_
     refine pureS (i := 26) (N := some 31) (any_of HT_.out (by kernel_rfl)) ?_
     refine pureU (i := 27) (N := some 32) (any_of HT_.out (by kernel_rfl)) ?_
     refine pureU (i := 28) (N := some 33) (any_of HT_.out (by kernel_rfl)) ?_
     refine pureU (i := 29) (N := some 34) (any_of HT_.out (by kernel_rfl)) ?_
     refine pureU (i := 30) (N := some 35) (any_of HT_.out (by kernel_rfl)) ?_
     refine pureS (i := 31) (N := some 36) (any_of HT_.out (by kernel_rfl)) ?_
     refine done_ (done_of HT_.out (by kernel_rfl)) ?_
     try go_wp2
     go_meet
     case rel => exact ⟨_, (true), (eW), H', ⟨by first | omega | exact Nat.le_refl _⟩, ⟨(bP BK570.out)⟩, ⟨bW⟩⟩
   ·replace c8 := Bool.eq_false_iff.mpr c8
    subst c8
    have H1 : (impl_IsAsynchronous.j0 k true l0_0 l0_1 l0_2 l0_3 l0_4) = some r := by rw [if_neg (show ¬ (false = true) by decide)] at H; exact H
    clear H
    have H := H1
    clear H1
    have H' := Aside0.mk H
    clear H
    try go_wp2
    have n0_ := Aside0.mk (blk_drew BK570.out)
    have n1_ := Aside0.mk (below_drew1 HB.out)
    clear BK570
    clear HB
    have BK570 := n0_
    have HB := n1_
    clear n0_ n1_
    refine start_ (n := 32) (S := fun w' => w'.cell? ⟨gb570, 0, none⟩ = some (.slice A0_0 l0_0.length c0_0) ∧ w'.cell? ⟨gb570, 1, none⟩ = some (.slice A0_1 l0_1.length c0_1) ∧ w'.cell? ⟨gb570, 2, none⟩ = some (.slice A0_2 l0_2.length c0_2) ∧ w'.cell? ⟨gb570, 3, none⟩ = some (.slice A0_3 l0_3.length c0_3) ∧ w'.cell? ⟨gb570, 4, none⟩ = some (.slice A0_4 l0_4.length c0_4)) (ds := []) #[false, false, false, false, false, false, false, false, false, false, false, false, false, false, false, false, false, false, false, false, false, false, false, false, false, false, false, false, false, false, false, false] (by kernel_rfl) rfl rfl ⟨(blk_cell BK570.out 0).trans rfl, (blk_cell BK570.out 1).trans rfl, (blk_cell BK570.out 2).trans rfl, (blk_cell BK570.out 3).trans rfl, (blk_cell BK570.out 4).trans rfl⟩ (fun hHeld => ?_); refine with_tabW impl_IsAsynchronous.tab1 impl_IsAsynchronous.bits1 (fun HT_ HW_ => ?_)
    generalize w3.drew = w24 at BK570 HB hHeld ⊢
    refine pureS (i := 0) (N := some 5) (any_of HT_.out (by kernel_rfl)) ?_
    refine pureS (i := 3) (N := some 8) (any_of HT_.out (by kernel_rfl)) ?_
    refine takeS (i := 1) (N := some 6) (take_ofW HT_.out HW_.out (by kernel_rfl)) hHeld ?_
    refine takeS (i := 4) (N := some 9) (take_ofW HT_.out HW_.out (by kernel_rfl)) hHeld ?_
    refine one_ (i := 2) (N := some 7) #[true, true, true, true, true, false, false, false, false, false, false, false, false, false, false, false, false, false, false, false, false, false, false, false, false, false, false, false, false, false, false, false] rfl rfl (one_of HT_.out (by kernel_rfl)) (by decide) (fun K hK => ?_)
    refine goes_ Tryd.func80 (by kernel_rfl) rfl #[.slice A0_1 l0_1.length c0_1] (by rfl) rfl rfl (by (try simp only [List.map_toArray, List.map_cons, List.map_nil]); first | done | rfl | (simp only [List.length_drop, List.length_take]; rfl)) ?_
    with_reducible refine (impl_length_int64_80.calls _ _ l0_1 t571 _ ?side1 ?side2 A4.out).mono ?_
    (case side1 => exact cP (Kd.C_below HR0_1.out HB.out))
    (case side2 => exact HC0_1.out)
    rintro e w' ⟨rfl, ⟨nd, rfl⟩⟩
    refine ⟨_, rfl, ?_⟩
    refine hK.out _ _ ⟨(blk_cell BK570.out 0).trans rfl, (blk_cell BK570.out 1).trans rfl, (blk_cell BK570.out 2).trans rfl, (blk_cell BK570.out 3).trans rfl, (blk_cell BK570.out 4).trans rfl⟩ (fun hHeld => ?_)
    clear hK K
    refine norm_ (a' := ?_) ?_ ?_
    rotate_left
    ·show Act.put _ (some 7) _ = _
     simp only [Act.put, List.setIfInBounds_toArray, List.set_cons_zero, List.set_cons_succ, i64_w, i32_w]
     rfl
    refine one_ (i := 5) (N := some 10) #[true, true, true, true, true, true, false, false, false, false, false, false, false, false, false, false, false, false, false, false, false, false, false, false, false, false, false, false, false, false, false, false] rfl rfl (one_of HT_.out (by kernel_rfl)) (by decide) (fun K hK => ?_)
    refine goes_ Tryd.func79 (by kernel_rfl) rfl #[.int .i64 t571, .slice A0_0 l0_0.length c0_0] (by rfl) rfl rfl (by (try simp only [List.map_toArray, List.map_cons, List.map_nil]); first | done | rfl | (simp only [List.length_drop, List.length_take]; rfl)) ?_
    with_reducible refine (impl_arePlaces.calls t571 _ _ l0_0 true _ ?side1 ?side2 A5.out).mono ?_
    (case side1 => exact cP (Kd.C_below HR0_0.out (bW)))
    (case side2 => exact HC0_0.out)
    rintro e w25 ⟨rfl, hb⟩
    refine ⟨_, rfl, ?_⟩
    have n0_ := Aside0.mk (blkB BK570.out hb)
    have n1_ := Aside0.mk (below_step (bW) hb)
    clear BK570
    clear HB
    have BK570 := n0_
    have HB := n1_
    clear n0_ n1_
    (try clear hb)
    (try clear hb2)
    (try clear hk)
    (try clear hi)
    refine hK.out _ _ ⟨(blk_cell BK570.out 0).trans rfl, (blk_cell BK570.out 1).trans rfl, (blk_cell BK570.out 2).trans rfl, (blk_cell BK570.out 3).trans rfl, (blk_cell BK570.out 4).trans rfl⟩ (fun hHeld => ?_)
    clear hK K
    refine norm_ (a' := ?_) ?_ ?_
    rotate_left
    ·show Act.put _ (some 10) _ = _
     simp only [Act.put, List.setIfInBounds_toArray, List.set_cons_zero, List.set_cons_succ, i64_w, i32_w]
     rfl
    refine pureS (i := 6) (N := some 11) (any_of HT_.out (by kernel_rfl)) ?_
    refine pureS (i := 7) (N := some 12) (any_of HT_.out (by kernel_rfl)) ?_
    refine pureS (i := 8) (N := some 13) (any_of HT_.out (by kernel_rfl)) ?_
    refine takeS (i := 9) (N := some 14) (take_ofW HT_.out HW_.out (by kernel_rfl)) hHeld ?_
    refine one_ (i := 10) (N := some 15) #[true, true, true, true, true, true, true, true, true, true, true, false, false, false, false, false, false, false, false, false, false, false, false, false, false, false, false, false, false, false, false, false] rfl rfl (one_of HT_.out (by kernel_rfl)) (by decide) (fun K hK => ?_)
    refine goes_ Tryd.func81 (by kernel_rfl) rfl #[.slice A0_1 l0_1.length c0_1, .int .i64 1, .int .i64 4] (by rfl) rfl rfl (by (try simp only [List.map_toArray, List.map_cons, List.map_nil]); first | done | rfl | (simp only [List.length_drop, List.length_take]; rfl)) ?_
    with_reducible refine (impl_allIn.calls _ _ l0_1 1 4 false _ ?side1 ?side2 A7.out).mono ?_
    (case side1 => exact cP (Kd.C_below HR0_1.out HB.out))
    (case side2 => exact HC0_1.out)
    rintro e w26 ⟨rfl, hb⟩
    refine ⟨_, rfl, ?_⟩
    have n0_ := Aside0.mk (blkB BK570.out hb)
    have n1_ := Aside0.mk (below_step (bW) hb)
    clear BK570
    clear HB
    have BK570 := n0_
    have HB := n1_
    clear n0_ n1_
    (try clear hb)
    (try clear hb2)
    (try clear hk)
    (try clear hi)
    refine hK.out _ _ ⟨(blk_cell BK570.out 0).trans rfl, (blk_cell BK570.out 1).trans rfl, (blk_cell BK570.out 2).trans rfl, (blk_cell BK570.out 3).trans rfl, (blk_cell BK570.out 4).trans rfl⟩ (fun hHeld => ?_)
    clear hK K
    refine norm_ (a' := ?_) ?_ ?_
    rotate_left
    ·show Act.put _ (some 15) _ = _
     simp only [Act.put, List.setIfInBounds_toArray, List.set_cons_zero, List.set_cons_succ, i64_w, i32_w]
     rfl
    refine pureS (i := 11) (N := some 16) (any_of HT_.out (by kernel_rfl)) ?_
    refine pureS (i := 12) (N := some 17) (any_of HT_.out (by kernel_rfl)) ?_
    refine pureS (i := 13) (N := some 18) (any_of HT_.out (by kernel_rfl)) ?_
    refine pureU (i := 14) (N := some 19) (any_of HT_.out (by kernel_rfl)) ?_
    refine pureU (i := 15) (N := some 20) (any_of HT_.out (by kernel_rfl)) ?_
    refine pureU (i := 16) (N := some 21) (any_of HT_.out (by kernel_rfl)) ?_
    refine pureU (i := 17) (N := some 22) (any_of HT_.out (by kernel_rfl)) ?_
    refine pureU (i := 18) (N := some 23) (any_of HT_.out (by kernel_rfl)) ?_
    refine pureU (i := 19) (N := some 24) (any_of HT_.out (by kernel_rfl)) ?_
    refine pureS (i := 20) (N := some 25) (any_of HT_.out (by kernel_rfl)) ?_
    refine pureS (i := 21) (N := some 26) (any_of HT_.out (by kernel_rfl)) ?_
    refine pureU (i := 22) (N := some 27) (any_of HT_.out (by kernel_rfl)) ?_
    refine pureU (i := 23) (N := some 28) (any_of HT_.out (by kernel_rfl)) ?_
    refine pureU (i := 24) (N := some 29) (any_of HT_.out (by kernel_rfl)) ?_
    refine pureS (i := 25) (N := some 30) (any_of HT_.out (by kernel_rfl)) ?_
    refine pureS (i := 26) (N := some 31) (any_of HT_.out (by kernel_rfl)) ?_
    refine pureU (i := 27) (N := some 32) (any_of HT_.out (by kernel_rfl)) ?_
    refine pureU (i := 28) (N := some 33) (any_of HT_.out (by kernel_rfl)) ?_
    refine pureU (i := 29) (N := some 34) (any_of HT_.out (by kernel_rfl)) ?_
    refine pureU (i := 30) (N := some 35) (any_of HT_.out (by kernel_rfl)) ?_
    refine pureS (i := 31) (N := some 36) (any_of HT_.out (by kernel_rfl)) ?_
    refine done_ (done_of HT_.out (by kernel_rfl)) ?_
    try go_wp2
    go_meet
    case rel => exact ⟨_, (true), (eW), H', ⟨by first | omega | exact Nat.le_refl _⟩, ⟨(bP BK570.out)⟩, ⟨bW⟩⟩
  ·replace c6 := Bool.eq_false_iff.mpr c6
   subst c6
   have H1 : (impl_IsAsynchronous.j0 k true l0_0 l0_1 l0_2 l0_3 l0_4) = some r := by rw [if_neg (show ¬ (false = true) by decide)] at H; exact H
   clear H
   have H := H1
   clear H1
   have H' := Aside0.mk H
   clear H
   try go_wp2
   have n0_ := Aside0.mk (blk_drew BK570.out)
   have n1_ := Aside0.mk (below_drew1 HB.out)
   clear BK570
   clear HB
   have BK570 := n0_
   have HB := n1_
   clear n0_ n1_
   refine start_ (n := 32) (S := fun w' => w'.cell? ⟨gb570, 0, none⟩ = some (.slice A0_0 l0_0.length c0_0) ∧ w'.cell? ⟨gb570, 1, none⟩ = some (.slice A0_1 l0_1.length c0_1) ∧ w'.cell? ⟨gb570, 2, none⟩ = some (.slice A0_2 l0_2.length c0_2) ∧ w'.cell? ⟨gb570, 3, none⟩ = some (.slice A0_3 l0_3.length c0_3) ∧ w'.cell? ⟨gb570, 4, none⟩ = some (.slice A0_4 l0_4.length c0_4)) (ds := []) #[false, false, false, false, false, false, false, false, false, false, false, false, false, false, false, false, false, false, false, false, false, false, false, false, false, false, false, false, false, false, false, false] (by kernel_rfl) rfl rfl ⟨(blk_cell BK570.out 0).trans rfl, (blk_cell BK570.out 1).trans rfl, (blk_cell BK570.out 2).trans rfl, (blk_cell BK570.out 3).trans rfl, (blk_cell BK570.out 4).trans rfl⟩ (fun hHeld => ?_); refine with_tabW impl_IsAsynchronous.tab1 impl_IsAsynchronous.bits1 (fun HT_ HW_ => ?_)
   generalize w3.drew = w27 at BK570 HB hHeld ⊢
   refine pureS (i := 0) (N := some 5) (any_of HT_.out (by kernel_rfl)) ?_
   refine pureS (i := 3) (N := some 8) (any_of HT_.out (by kernel_rfl)) ?_
   refine takeS (i := 1) (N := some 6) (take_ofW HT_.out HW_.out (by kernel_rfl)) hHeld ?_
   refine takeS (i := 4) (N := some 9) (take_ofW HT_.out HW_.out (by kernel_rfl)) hHeld ?_
   refine one_ (i := 2) (N := some 7) #[true, true, true, true, true, false, false, false, false, false, false, false, false, false, false, false, false, false, false, false, false, false, false, false, false, false, false, false, false, false, false, false] rfl rfl (one_of HT_.out (by kernel_rfl)) (by decide) (fun K hK => ?_)
   refine goes_ Tryd.func80 (by kernel_rfl) rfl #[.slice A0_1 l0_1.length c0_1] (by rfl) rfl rfl (by (try simp only [List.map_toArray, List.map_cons, List.map_nil]); first | done | rfl | (simp only [List.length_drop, List.length_take]; rfl)) ?_
   with_reducible refine (impl_length_int64_80.calls _ _ l0_1 t571 _ ?side1 ?side2 A4.out).mono ?_
   (case side1 => exact cP (Kd.C_below HR0_1.out HB.out))
   (case side2 => exact HC0_1.out)
   rintro e w' ⟨rfl, ⟨nd, rfl⟩⟩
   refine ⟨_, rfl, ?_⟩
   refine hK.out _ _ ⟨(blk_cell BK570.out 0).trans rfl, (blk_cell BK570.out 1).trans rfl, (blk_cell BK570.out 2).trans rfl, (blk_cell BK570.out 3).trans rfl, (blk_cell BK570.out 4).trans rfl⟩ (fun hHeld => ?_)
   clear hK K
   refine norm_ (a' := ?_) ?_ ?_
   rotate_left
   ·show Act.put _ (some 7) _ = _
    simp only [Act.put, List.setIfInBounds_toArray, List.set_cons_zero, List.set_cons_succ, i64_w, i32_w]
    rfl
   refine one_ (i := 5) (N := some 10) #[true, true, true, true, true, true, false, false, false, false, false, false, false, false, false, false, false, false, false, false, false, false, false, false, false, false, false, false, false, false, false, false] rfl rfl (one_of HT_.out (by kernel_rfl)) (by decide) (fun K hK => ?_)
   refine goes_ Tryd.func79 (by kernel_rfl) rfl #[.int .i64 t571, .slice A0_0 l0_0.length c0_0] (by rfl) rfl rfl (by (try simp only [List.map_toArray, List.map_cons, List.map_nil]); first | done | rfl | (simp only [List.length_drop, List.length_take]; rfl)) ?_
   with_reducible refine (impl_arePlaces.calls t571 _ _ l0_0 false _ ?side1 ?side2 A5.out).mono ?_
   (case side1 => exact cP (Kd.C_below HR0_0.out (bW)))
   (case side2 => exact HC0_0.out)
   rintro e w28 ⟨rfl, hb⟩
   refine ⟨_, rfl, ?_⟩
   have n0_ := Aside0.mk (blkB BK570.out hb)
   have n1_ := Aside0.mk (below_step (bW) hb)
   clear BK570
   clear HB
   have BK570 := n0_
   have HB := n1_
   clear n0_ n1_
   (try clear hb)
   (try clear hb2)
   (try clear hk)
   (try clear hi)
   refine hK.out _ _ ⟨(blk_cell BK570.out 0).trans rfl, (blk_cell BK570.out 1).trans rfl, (blk_cell BK570.out 2).trans rfl, (blk_cell BK570.out 3).trans rfl, (blk_cell BK570.out 4).trans rfl⟩ (fun hHeld => ?_)
   clear hK K
   refine norm_ (a' := ?_) ?_ ?_
   rotate_left
   ·show Act.put _ (some 10) _ = _
    simp only [Act.put, List.setIfInBounds_toArray, List.set_cons_zero, List.set_cons_succ, i64_w, i32_w]
    rfl
   refine pureS (i := 6) (N := some 11) (any_of HT_.out (by kernel_rfl)) ?_
   refine pureS (i := 7) (N := some 12) (any_of HT_.out (by kernel_rfl)) ?_
   refine pureU (i := 8) (N := some 13) (any_of HT_.out (by kernel_rfl)) ?_
   refine pureU (i := 9) (N := some 14) (any_of HT_.out (by kernel_rfl)) ?_
   refine pureU (i := 10) (N := some 15) (any_of HT_.out (by kernel_rfl)) ?_
   refine pureU (i := 11) (N := some 16) (any_of HT_.out (by kernel_rfl)) ?_
   refine pureS (i := 12) (N := some 17) (any_of HT_.out (by kernel_rfl)) ?_
   refine pureS (i := 13) (N := some 18) (any_of HT_.out (by kernel_rfl)) ?_
   refine pureU (i := 14) (N := some 19) (any_of HT_.out (by kernel_rfl)) ?_
   refine pureU (i := 15) (N := some 20) (any_of HT_.out (by kernel_rfl)) ?_
   refine pureU (i := 16) (N := some 21) (any_of HT_.out (by kernel_rfl)) ?_
   refine pureU (i := 17) (N := some 22) (any_of HT_.out (by kernel_rfl)) ?_
   refine pureU (i := 18) (N := some 23) (any_of HT_.out (by kernel_rfl)) ?_
   refine pureU (i := 19) (N := some 24) (any_of HT_.out (by kernel_rfl)) ?_
   refine pureS (i := 20) (N := some 25) (any_of HT_.out (by kernel_rfl)) ?_
   refine pureS (i := 21) (N := some 26) (any_of HT_.out (by kernel_rfl)) ?_
   refine pureU (i := 22) (N := some 27) (any_of HT_.out (by kernel_rfl)) ?_
   refine pureU (i := 23) (N := some 28) (any_of HT_.out (by kernel_rfl)) ?_
   refine pureU (i := 24) (N := some 29) (any_of HT_.out (by kernel_rfl)) ?_
   refine pureS (i := 25) (N := some 30) (any_of HT_.out (by kernel_rfl)) ?_
   refine pureS (i := 26) (N := some 31) (any_of HT_.out (by kernel_rfl)) ?_
   refine pureU (i := 27) (N := some 32) (any_of HT_.out (by kernel_rfl)) ?_
   refine pureU (i := 28) (N := some 33) (any_of HT_.out (by kernel_rfl)) ?_
   refine pureU (i := 29) (N := some 34) (any_of HT_.out (by kernel_rfl)) ?_
   refine pureU (i := 30) (N := some 35) (any_of HT_.out (by kernel_rfl)) ?_
   refine pureS (i := 31) (N := some 36) (any_of HT_.out (by kernel_rfl)) ?_
   refine done_ (done_of HT_.out (by kernel_rfl)) ?_
   try go_wp2
   go_meet
   case rel => exact ⟨_, (true), (eW), H', ⟨by first | omega | exact Nat.le_refl _⟩, ⟨(bP BK570.out)⟩, ⟨bW⟩⟩
 case rest =>
  clear HC2
  try clear p2
  try clear c6
  try clear c7
  try clear c8
  obtain ⟨kq, x36_1, rfl, HA, HJ1, BK570, HB⟩ := hcut
  cases kq with
  | zero => exact absurd HA.out (by simp [impl_IsAsynchronous.j0])
  | succ kj1 =>
   have H := HA.out
   clear HA
   simp only [impl_IsAsynchronous.j0] at H
   by_cases c29 : x36_1 = true
   ·subst c29
    have H1 : (some false) = some r := by rw [if_pos rfl] at H; exact H
    clear H
    have H := H1
    clear H1
    obtain rfl := Option.some.inj H
    go_wp2
    go_ret
    exact ⟨eW, bW⟩
   ·replace c29 := Bool.eq_false_iff.mpr c29
    subst c29
    have H1 : (impl_IsAsynchronous.l0 kj1 l0_4 (l0_4.length : Int) 0 l0_0 l0_1 l0_2 l0_3 l0_4) = some r := by rw [if_neg (show ¬ (false = true) by decide)] at H; exact H
    clear H
    have H := H1
    clear H1
    have H' := Aside0.mk H
    clear H
    have hcz30_0 : wc.cell? ⟨gb570, 0, none⟩ = some (.slice A0_0 l0_0.length c0_0) := (blk_cell BK570.out 0).trans rfl
    have hcz30_1 : wc.cell? ⟨gb570, 1, none⟩ = some (.slice A0_1 l0_1.length c0_1) := (blk_cell BK570.out 1).trans rfl
    have hcz30_2 : wc.cell? ⟨gb570, 2, none⟩ = some (.slice A0_2 l0_2.length c0_2) := (blk_cell BK570.out 2).trans rfl
    have hcz30_3 : wc.cell? ⟨gb570, 3, none⟩ = some (.slice A0_3 l0_3.length c0_3) := (blk_cell BK570.out 3).trans rfl
    have hcz30_4 : wc.cell? ⟨gb570, 4, none⟩ = some (.slice A0_4 l0_4.length c0_4) := (blk_cell BK570.out 4).trans rfl
    have hfz30_0 := blk_frozen BK570.out 0
    have hfz30_1 := blk_frozen BK570.out 1
    have hfz30_2 := blk_frozen BK570.out 2
    have hfz30_3 := blk_frozen BK570.out 3
    have hfz30_4 := blk_frozen BK570.out 4
    go_wp2
    go_loopg [40] kj1 (fun kq v40 w' => ∃ (x40_2 : Int), v40 = .int .i64 x40_2 ∧ Aside0 (impl_IsAsynchronous.l0 kq l0_4 (l0_4.length : Int) x40_2 l0_0 l0_1 l0_2 l0_3 l0_4 = some r) ∧ Aside0 (kq ≤ kj1) ∧ Aside0 (w'.heap[gb570]? = some (.cells #[(.slice A0_0 l0_0.length c0_0), (.slice A0_1 l0_1.length c0_1), (.slice A0_2 l0_2.length c0_2), (.slice A0_3 l0_3.length c0_3), (.slice A0_4 l0_4.length c0_4)] 65 (0, 0))) ∧ Aside0 (Below w.heap.size w w'))
    case atStart => exact ⟨(0), (eW), H', ⟨Nat.le_refl _⟩, ⟨(bP BK570.out)⟩, ⟨bW⟩⟩
    case round =>
     clear H'
     try clear c2
     try clear p2
     try clear c6
     try clear c7
     try clear c8
     try clear c29
     try clear hcz30_0
     try clear hcz30_1
     try clear hcz30_2
     try clear hcz30_3
     try clear hcz30_4
     try clear hfz30_0
     try clear hfz30_1
     try clear hfz30_2
     try clear hfz30_3
     try clear hfz30_4
     try clear p2
     obtain ⟨x40_2, rfl, HA, HK2, BK570, HB⟩ := hrel
     cases gk with
     | zero => exact absurd HA.out (by simp [impl_IsAsynchronous.l0])
     | succ k2 =>
      have H := HA.out
      clear HA
      simp only [impl_IsAsynchronous.l0] at H
      by_cases c31 : x40_2 < (l0_4.length : Int)
      ·rw [if_pos c31] at H
       have c31b0 : decide (x40_2 < (l0_4.length : Int)) = true := decide_eq_true c31
       clear c31
       by_cases c32 : 0 ≤ x40_2
       ·rw [if_pos c32] at H
        have c32b0 : decide (0 ≤ x40_2) = true := decide_eq_true c32
        clear c32
        by_cases c33 : x40_2 < (l0_4.length : Int)
        ·rw [if_pos c33] at H
         have c33b0 : decide (x40_2 < (l0_4.length : Int)) = true := decide_eq_true c33
         clear c33
         replace H := Option.bind_eq_some_iff.mp H
         obtain ⟨t577, A340, H⟩ := H
         replace H : (if t577 = true then (if x40_2 > 0 then (if 0 ≤ (wrap64 (x40_2 - 1)) then (if (wrap64 (x40_2 - 1)) < (l0_4.length : Int) then ((slices_Compare_int64_int64.f k2 (rd_L1 l0_4 (wrap64 (x40_2 - 1))) (rd_L1 l0_4 x40_2)).bind fun t579 => (if t579 ≥ 0 then (some false) else (impl_IsAsynchronous.l0 k2 l0_4 (l0_4.length : Int) (wrap64 (x40_2 + 1)) l0_0 l0_1 l0_2 l0_3 l0_4))) else (none)) else (none)) else (impl_IsAsynchronous.l0 k2 l0_4 (l0_4.length : Int) (wrap64 (x40_2 + 1)) l0_0 l0_1 l0_2 l0_3 l0_4)) else (some false)) = some r := H
         have A34 := Aside0.mk A340
         clear A340
         by_cases c35 : t577 = true
         ·subst c35
          have H1 : (if x40_2 > 0 then (if 0 ≤ (wrap64 (x40_2 - 1)) then (if (wrap64 (x40_2 - 1)) < (l0_4.length : Int) then ((slices_Compare_int64_int64.f k2 (rd_L1 l0_4 (wrap64 (x40_2 - 1))) (rd_L1 l0_4 x40_2)).bind fun t579 => (if t579 ≥ 0 then (some false) else (impl_IsAsynchronous.l0 k2 l0_4 (l0_4.length : Int) (wrap64 (x40_2 + 1)) l0_0 l0_1 l0_2 l0_3 l0_4))) else (none)) else (none)) else (impl_IsAsynchronous.l0 k2 l0_4 (l0_4.length : Int) (wrap64 (x40_2 + 1)) l0_0 l0_1 l0_2 l0_3 l0_4)) = some r := by rw [if_pos rfl] at H; exact H
          clear H
          have H := H1
          clear H1
          by_cases c36 : x40_2 > 0
          ·rw [if_pos c36] at H
           have c36b0 : decide (0 < x40_2) = true := decide_eq_true c36
           clear c36
           obtain ⟨ji37, hji37⟩ : ∃ j_ : Int, (wrap64 (x40_2 - 1)) = j_ := ⟨_, rfl⟩
           replace H : (if 0 ≤ (ji37) then (if (ji37) < (l0_4.length : Int) then ((slices_Compare_int64_int64.f k2 (rd_L1 l0_4 (ji37)) (rd_L1 l0_4 x40_2)).bind fun t579 => (if t579 ≥ 0 then (some false) else (impl_IsAsynchronous.l0 k2 l0_4 (l0_4.length : Int) (wrap64 (x40_2 + 1)) l0_0 l0_1 l0_2 l0_3 l0_4))) else (none)) else (none)) = some r := by first | (rw [hji37] at H; exact H) | (simp only [hji37] at H ⊢; exact H)
           (try rw [hji37] at A34)
           have hji37w : (IntKind.i64.wrap (x40_2 - 1)) = ji37 := (i64_w _).trans hji37
           by_cases c38 : 0 ≤ (ji37)
           ·rw [if_pos c38] at H
            have c38b0 : decide (0 ≤ (ji37)) = true := decide_eq_true c38
            clear c38
            by_cases c39 : (ji37) < (l0_4.length : Int)
            ·rw [if_pos c39] at H
             have c39b0 : decide ((ji37) < (l0_4.length : Int)) = true := decide_eq_true c39
             clear c39
             replace H := Option.bind_eq_some_iff.mp H
             obtain ⟨t579, A400, H⟩ := H
             replace H : (if t579 ≥ 0 then (some false) else (impl_IsAsynchronous.l0 k2 l0_4 (l0_4.length : Int) (wrap64 (x40_2 + 1)) l0_0 l0_1 l0_2 l0_3 l0_4)) = some r := H
             have A40 := Aside0.mk A400
             clear A400
             by_cases c41 : t579 ≥ 0
             ·rw [if_pos c41] at H
              have c41b0 : decide (0 ≤ t579) = true := decide_eq_true c41
              clear c41
              obtain rfl := Option.some.inj H
              have p576 : 0 ≤ (x40_2 : Int) := ofD
              have q576 : x40_2 < (l0_4.length : Int) := ofD
              obtain ⟨ad576, A576_0, c576_0, e576, hx576_0, hl576_0, hi576_0⟩ := at_L1 HR0_4.out x40_2 p576 q576
              cases e576
              replace hx576_0 := (HB.out.cell (World.block_lt_of_cell? w _ hx576_0)).trans hx576_0
              have HR576_0 := Aside0.mk hi576_0
              have HC576_0 := Aside0.mk hl576_0
              clear hi576_0 hl576_0
              replace p576 := eq_true p576
              replace q576 := eq_true q576
              have hcz42_0 : wr.cell? ⟨gb570, 0, none⟩ = some (.slice A0_0 l0_0.length c0_0) := (blk_cell BK570.out 0).trans rfl
              have hcz42_1 : wr.cell? ⟨gb570, 1, none⟩ = some (.slice A0_1 l0_1.length c0_1) := (blk_cell BK570.out 1).trans rfl
              have hcz42_2 : wr.cell? ⟨gb570, 2, none⟩ = some (.slice A0_2 l0_2.length c0_2) := (blk_cell BK570.out 2).trans rfl
              have hcz42_3 : wr.cell? ⟨gb570, 3, none⟩ = some (.slice A0_3 l0_3.length c0_3) := (blk_cell BK570.out 3).trans rfl
              have hcz42_4 : wr.cell? ⟨gb570, 4, none⟩ = some (.slice (some ad576) l0_4.length c0_4) := (blk_cell BK570.out 4).trans rfl
              have hfz42_0 := blk_frozen BK570.out 0
              have hfz42_1 := blk_frozen BK570.out 1
              have hfz42_2 := blk_frozen BK570.out 2
              have hfz42_3 := blk_frozen BK570.out 3
              have hfz42_4 := blk_frozen BK570.out 4
              go_wp2_with (first | ((with_reducible refine gate_callee (f := 82) rfl ?_); refine goesS (some 48) Tryd.func82 #[.slice A0_1 l0_1.length c0_1, .slice A576_0 (rd_L1 l0_4 x40_2).length c576_0] ?_; (with_reducible refine (impl_isGlobal.calls k2 _ _ l0_1 _ _ (rd_L1 l0_4 x40_2) true _ ?side1 ?side2 ?side3 ?side4 A34.out).mono ?_); (case side1 => exact cP (Kd.C_below HR0_1.out HB.out)); (case side2 => exact HC0_1.out); (case side3 => exact cP (Kd.C_below HR576_0.out HB.out)); (case side4 => exact HC576_0.out); rintro e w' ⟨rfl, ⟨nd, rfl⟩⟩; refine ⟨_, rfl, ?_⟩; have p578 : 0 ≤ ((ji37) : Int) := ofD; have q578 : (ji37) < (l0_4.length : Int) := ofD; obtain ⟨ad578, A578_0, c578_0, e578, hx578_0, hl578_0, hi578_0⟩ := at_L1 HR0_4.out (ji37) p578 q578; obtain rfl : ad576 = ad578 := (by injection e578); replace hx578_0 := (HB.out.cell (World.block_lt_of_cell? w _ hx578_0)).trans hx578_0; have HR578_0 := Aside0.mk hi578_0; have HC578_0 := Aside0.mk hl578_0; clear hi578_0 hl578_0; replace p578 := eq_true p578; replace q578 := eq_true q578) | (go_at_call 84; (with_reducible refine (slices_Compare_int64_int64.calls k2 _ _ (rd_L1 l0_4 (ji37)) _ _ (rd_L1 l0_4 x40_2) t579 _ ?side1 ?side2 ?side3 ?side4 A40.out).mono ?_); (case side1 => exact cP (Kd.C_below HR578_0.out (bW))); (case side2 => exact HC578_0.out); (case side3 => exact cP (Kd.C_below HR576_0.out (bW))); (case side4 => exact HC576_0.out); rintro e w' ⟨rfl, ⟨nd, rfl⟩⟩))
              go_ret
              exact ⟨by first | rfl | (simp [errW_none, errW_some] <;> rfl) | (simp only [← hji37]; first | rfl | (simp [errW_none, errW_some] <;> rfl)) | (simp [*, errW_none, errW_some] <;> rfl), bW⟩
             ·rw [if_neg c41] at H
              have c41b0 : decide (0 ≤ t579) = false := decide_eq_false c41
              clear c41
              have H' := Aside0.mk H
              clear H
              have p576 : 0 ≤ (x40_2 : Int) := ofD
              have q576 : x40_2 < (l0_4.length : Int) := ofD
              obtain ⟨ad576, A576_0, c576_0, e576, hx576_0, hl576_0, hi576_0⟩ := at_L1 HR0_4.out x40_2 p576 q576
              cases e576
              replace hx576_0 := (HB.out.cell (World.block_lt_of_cell? w _ hx576_0)).trans hx576_0
              have HR576_0 := Aside0.mk hi576_0
              have HC576_0 := Aside0.mk hl576_0
              clear hi576_0 hl576_0
              replace p576 := eq_true p576
              replace q576 := eq_true q576
              have hcz43_0 : wr.cell? ⟨gb570, 0, none⟩ = some (.slice A0_0 l0_0.length c0_0) := (blk_cell BK570.out 0).trans rfl
              have hcz43_1 : wr.cell? ⟨gb570, 1, none⟩ = some (.slice A0_1 l0_1.length c0_1) := (blk_cell BK570.out 1).trans rfl
              have hcz43_2 : wr.cell? ⟨gb570, 2, none⟩ = some (.slice A0_2 l0_2.length c0_2) := (blk_cell BK570.out 2).trans rfl
              have hcz43_3 : wr.cell? ⟨gb570, 3, none⟩ = some (.slice A0_3 l0_3.length c0_3) := (blk_cell BK570.out 3).trans rfl
              have hcz43_4 : wr.cell? ⟨gb570, 4, none⟩ = some (.slice (some ad576) l0_4.length c0_4) := (blk_cell BK570.out 4).trans rfl
              have hfz43_0 := blk_frozen BK570.out 0
              have hfz43_1 := blk_frozen BK570.out 1
              have hfz43_2 := blk_frozen BK570.out 2
              have hfz43_3 := blk_frozen BK570.out 3
              have hfz43_4 := blk_frozen BK570.out 4
              go_wp2_with (first | ((with_reducible refine gate_callee (f := 82) rfl ?_); refine goesS (some 48) Tryd.func82 #[.slice A0_1 l0_1.length c0_1, .slice A576_0 (rd_L1 l0_4 x40_2).length c576_0] ?_; (with_reducible refine (impl_isGlobal.calls k2 _ _ l0_1 _ _ (rd_L1 l0_4 x40_2) true _ ?side1 ?side2 ?side3 ?side4 A34.out).mono ?_); (case side1 => exact cP (Kd.C_below HR0_1.out HB.out)); (case side2 => exact HC0_1.out); (case side3 => exact cP (Kd.C_below HR576_0.out HB.out)); (case side4 => exact HC576_0.out); rintro e w' ⟨rfl, ⟨nd, rfl⟩⟩; refine ⟨_, rfl, ?_⟩; have p578 : 0 ≤ ((ji37) : Int) := ofD; have q578 : (ji37) < (l0_4.length : Int) := ofD; obtain ⟨ad578, A578_0, c578_0, e578, hx578_0, hl578_0, hi578_0⟩ := at_L1 HR0_4.out (ji37) p578 q578; obtain rfl : ad576 = ad578 := (by injection e578); replace hx578_0 := (HB.out.cell (World.block_lt_of_cell? w _ hx578_0)).trans hx578_0; have HR578_0 := Aside0.mk hi578_0; have HC578_0 := Aside0.mk hl578_0; clear hi578_0 hl578_0; replace p578 := eq_true p578; replace q578 := eq_true q578) | (go_at_call 84; (with_reducible refine (slices_Compare_int64_int64.calls k2 _ _ (rd_L1 l0_4 (ji37)) _ _ (rd_L1 l0_4 x40_2) t579 _ ?side1 ?side2 ?side3 ?side4 A40.out).mono ?_); (case side1 => exact cP (Kd.C_below HR578_0.out (bW))); (case side2 => exact HC578_0.out); (case side3 => exact cP (Kd.C_below HR576_0.out (bW))); (case side4 => exact HC576_0.out); rintro e w' ⟨rfl, ⟨nd, rfl⟩⟩))
              go_roundg k2
              case measure => have := HJ1.out; have := HK2.out; omega
              case rel => exact ⟨(wrap64 (x40_2 + 1)), (eW), H', ⟨by have := HJ1.out; have := HK2.out; omega⟩, ⟨(bP BK570.out)⟩, ⟨bW⟩⟩
            ·rw [if_neg c39] at H
             exact absurd H (by simp)
           ·rw [if_neg c38] at H
            exact absurd H (by simp)
          ·rw [if_neg c36] at H
           have c36b0 : decide (0 < x40_2) = false := decide_eq_false c36
           clear c36
           have H' := Aside0.mk H
           clear H
           have p576 : 0 ≤ (x40_2 : Int) := ofD
           have q576 : x40_2 < (l0_4.length : Int) := ofD
           obtain ⟨ad576, A576_0, c576_0, e576, hx576_0, hl576_0, hi576_0⟩ := at_L1 HR0_4.out x40_2 p576 q576
           cases e576
           replace hx576_0 := (HB.out.cell (World.block_lt_of_cell? w _ hx576_0)).trans hx576_0
           have HR576_0 := Aside0.mk hi576_0
           have HC576_0 := Aside0.mk hl576_0
           clear hi576_0 hl576_0
           replace p576 := eq_true p576
           replace q576 := eq_true q576
           have hcz44_0 : wr.cell? ⟨gb570, 0, none⟩ = some (.slice A0_0 l0_0.length c0_0) := (blk_cell BK570.out 0).trans rfl
           have hcz44_1 : wr.cell? ⟨gb570, 1, none⟩ = some (.slice A0_1 l0_1.length c0_1) := (blk_cell BK570.out 1).trans rfl
           have hcz44_2 : wr.cell? ⟨gb570, 2, none⟩ = some (.slice A0_2 l0_2.length c0_2) := (blk_cell BK570.out 2).trans rfl
           have hcz44_3 : wr.cell? ⟨gb570, 3, none⟩ = some (.slice A0_3 l0_3.length c0_3) := (blk_cell BK570.out 3).trans rfl
           have hcz44_4 : wr.cell? ⟨gb570, 4, none⟩ = some (.slice (some ad576) l0_4.length c0_4) := (blk_cell BK570.out 4).trans rfl
           have hfz44_0 := blk_frozen BK570.out 0
           have hfz44_1 := blk_frozen BK570.out 1
           have hfz44_2 := blk_frozen BK570.out 2
           have hfz44_3 := blk_frozen BK570.out 3
           have hfz44_4 := blk_frozen BK570.out 4
           go_wp2_with (first | ((with_reducible refine gate_callee (f := 82) rfl ?_); refine goesS (some 48) Tryd.func82 #[.slice A0_1 l0_1.length c0_1, .slice A576_0 (rd_L1 l0_4 x40_2).length c576_0] ?_; (with_reducible refine (impl_isGlobal.calls k2 _ _ l0_1 _ _ (rd_L1 l0_4 x40_2) true _ ?side1 ?side2 ?side3 ?side4 A34.out).mono ?_); (case side1 => exact cP (Kd.C_below HR0_1.out HB.out)); (case side2 => exact HC0_1.out); (case side3 => exact cP (Kd.C_below HR576_0.out HB.out)); (case side4 => exact HC576_0.out); rintro e w' ⟨rfl, ⟨nd, rfl⟩⟩; refine ⟨_, rfl, ?_⟩))
           go_roundg k2
           case measure => have := HJ1.out; have := HK2.out; omega
           case rel => exact ⟨(wrap64 (x40_2 + 1)), (eW), H', ⟨by have := HJ1.out; have := HK2.out; omega⟩, ⟨(bP BK570.out)⟩, ⟨bW⟩⟩
         ·replace c35 := Bool.eq_false_iff.mpr c35
          subst c35
          have H1 : (some false) = some r := by rw [if_neg (show ¬ (false = true) by decide)] at H; exact H
          clear H
          have H := H1
          clear H1
          obtain rfl := Option.some.inj H
          have p576 : 0 ≤ (x40_2 : Int) := ofD
          have q576 : x40_2 < (l0_4.length : Int) := ofD
          obtain ⟨ad576, A576_0, c576_0, e576, hx576_0, hl576_0, hi576_0⟩ := at_L1 HR0_4.out x40_2 p576 q576
          cases e576
          replace hx576_0 := (HB.out.cell (World.block_lt_of_cell? w _ hx576_0)).trans hx576_0
          have HR576_0 := Aside0.mk hi576_0
          have HC576_0 := Aside0.mk hl576_0
          clear hi576_0 hl576_0
          replace p576 := eq_true p576
          replace q576 := eq_true q576
          have hcz45_0 : wr.cell? ⟨gb570, 0, none⟩ = some (.slice A0_0 l0_0.length c0_0) := (blk_cell BK570.out 0).trans rfl
          have hcz45_1 : wr.cell? ⟨gb570, 1, none⟩ = some (.slice A0_1 l0_1.length c0_1) := (blk_cell BK570.out 1).trans rfl
          have hcz45_2 : wr.cell? ⟨gb570, 2, none⟩ = some (.slice A0_2 l0_2.length c0_2) := (blk_cell BK570.out 2).trans rfl
          have hcz45_3 : wr.cell? ⟨gb570, 3, none⟩ = some (.slice A0_3 l0_3.length c0_3) := (blk_cell BK570.out 3).trans rfl
          have hcz45_4 : wr.cell? ⟨gb570, 4, none⟩ = some (.slice (some ad576) l0_4.length c0_4) := (blk_cell BK570.out 4).trans rfl
          have hfz45_0 := blk_frozen BK570.out 0
          have hfz45_1 := blk_frozen BK570.out 1
          have hfz45_2 := blk_frozen BK570.out 2
          have hfz45_3 := blk_frozen BK570.out 3
          have hfz45_4 := blk_frozen BK570.out 4
          go_wp2_with (first | ((with_reducible refine gate_callee (f := 82) rfl ?_); refine goesS (some 48) Tryd.func82 #[.slice A0_1 l0_1.length c0_1, .slice A576_0 (rd_L1 l0_4 x40_2).length c576_0] ?_; (with_reducible refine (impl_isGlobal.calls k2 _ _ l0_1 _ _ (rd_L1 l0_4 x40_2) false _ ?side1 ?side2 ?side3 ?side4 A34.out).mono ?_); (case side1 => exact cP (Kd.C_below HR0_1.out HB.out)); (case side2 => exact HC0_1.out); (case side3 => exact cP (Kd.C_below HR576_0.out HB.out)); (case side4 => exact HC576_0.out); rintro e w' ⟨rfl, ⟨nd, rfl⟩⟩; refine ⟨_, rfl, ?_⟩))
          go_ret
          exact ⟨eW, bW⟩
        ·rw [if_neg c33] at H
         exact absurd H (by simp)
       ·rw [if_neg c32] at H
        exact absurd H (by simp)
      ·rw [if_neg c31] at H
       have c31b0 : decide (x40_2 < (l0_4.length : Int)) = false := decide_eq_false c31
       clear c31
       obtain rfl := Option.some.inj H
       go_wp2
       go_ret
       exact ⟨eW, bW⟩

end Go.Proofs.YthbaocejgjpfoaaDoor.P
end M0
