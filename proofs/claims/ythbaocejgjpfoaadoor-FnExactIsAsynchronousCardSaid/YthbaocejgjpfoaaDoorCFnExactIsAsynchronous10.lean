import Derived.ArgAppend
import Derived.Below
import Derived.BigQuiet
import Derived.Deep.AppendLies
import Derived.Deep.CutBlock
import Derived.Deep.DeepCutAuto
import Derived.Deep.Draws
import Derived.Deep.LoopGhost
import Derived.Deep.OwnRows
import Derived.Deep.QuietTactic
import Derived.Deep.RegionHeld3
import Derived.KernelRfl
import Derived.Laws.BitsLemmas
import Derived.Laws.BytesArg
import Derived.Laws.IdiomCopy
import Derived.Laws.MakeOwn
import Derived.Laws.OwnMore
import Derived.Laws.Rows
import Derived.Laws.Slices
import Derived.Laws.StructEq
import Derived.Lib.AppendStr
import Derived.Lib.ConvBytes
import Derived.Lib.SliceRun
import Derived.Maps.AppendAt
import Derived.OrdersHeld
import Derived.OwnWalk
import Derived.RowKit
import Derived.RowKit3
import Derived.Shelf.Abstract
import Derived.Shelf.Spec.TrailingZeros
import Derived.Tactics
import Derived.Test.YthbaocejgjpfoaaDoorProg
import Derived.WalkKit
import Derived.WideLaws
import Derived.Test.YthbaocejgjpfoaaDoorCFnExactIsAsynchronous2
import Derived.Test.YthbaocejgjpfoaaDoorCFnExactIsAsynchronous7
import Derived.Test.YthbaocejgjpfoaaDoorCFnExactIsAsynchronous9
section M0
namespace Go.Proofs.YthbaocejgjpfoaaDoor.P
open Go.RowKit Go.Proofs.YthbaocejgjpfoaaDoor.Sh Go.Proofs.YthbaocejgjpfoaaDoorW.PrintWords Go.Proofs.YthbaocejgjpfoaaDoorW.PrintLast Go.Proofs.YthbaocejgjpfoaaDoorW.PrintMore
attribute [local go_sem] max2_int min2_int max_two min_two max_three min_three max_four min_four   -- for this text's walks alone
set_option linter.unusedVariables false
set_option linter.unusedSimpArgs false

/-! ### impl_goodJoints: function 83 -/
def impl_goodJoints.l0 : Nat → List (S149) → Int → Int → List Int → List Int → List Int → List (S149) → List (List Int) → Option (Bool)
 | 0, _, _, _, _, _, _, _, _ => none
 | k + 1, x7, x8, x9, x558000, x558001, x558002, x558003, x558004 => if x9 < x8 then (if 0 ≤ x9 then (if x9 < (x7.length : Int) then ((impl_length_int64_80.f x558000).bind fun t560 => ((impl_inRange.f ((rd_T149 x7 x9).f0) 0 (wrap64 (t560 - 1))).bind fun t561 => (if t561 = true then (if 0 ≤ ((rd_T149 x7 x9).f0) then (if ((rd_T149 x7 x9).f0) < (x558000.length : Int) then ((impl_locals.f k x558001 (rd x558000 ((rd_T149 x7 x9).f0))).bind fun t563 => ((impl_isGlobal.f k t563 ((rd_T149 x7 x9).f1)).bind fun t566 => (if t566 = true then ((impl_isGlobal.f k t563 ((rd_T149 x7 x9).f2)).bind fun t567 => (if t567 = true then (if x9 > 0 then (if 0 ≤ (wrap64 (x9 - 1)) then (if (wrap64 (x9 - 1)) < (x558003.length : Int) then ((impl_compareJoints.f k ((rd_T149 x558003 (wrap64 (x9 - 1))).f0) ((rd_T149 x558003 (wrap64 (x9 - 1))).f1) ((rd_T149 x558003 (wrap64 (x9 - 1))).f2) ((rd_T149 x7 x9).f0) ((rd_T149 x7 x9).f1) ((rd_T149 x7 x9).f2)).bind fun t569 => (if t569 ≥ 0 then (some false) else (impl_goodJoints.l0 k x7 x8 (wrap64 (x9 + 1)) x558000 x558001 x558002 x558003 x558004))) else (none)) else (none)) else (impl_goodJoints.l0 k x7 x8 (wrap64 (x9 + 1)) x558000 x558001 x558002 x558003 x558004)) else (some false))) else (some false)))) else (none)) else (none)) else (some false)))) else (none)) else (none)) else (some (decide ((x558003.length : Int) ≤ 64)))
def impl_goodJoints.f (k : Nat) (l0_0 : List Int) (l0_1 : List Int) (l0_2 : List Int) (l0_3 : List (S149)) (l0_4 : List (List Int)) : Option (Bool) := impl_goodJoints.l0 k l0_3 (l0_3.length : Int) 0 l0_0 l0_1 l0_2 l0_3 l0_4
theorem impl_goodJoints.mono_l : ∀ k, (∀ y0 y1 y2 y3 y4 y5 y6 y7, LeO (impl_goodJoints.l0 k y0 y1 y2 y3 y4 y5 y6 y7) (impl_goodJoints.l0 (k + 1) y0 y1 y2 y3 y4 y5 y6 y7))
 | 0 => fun _ _ _ _ _ _ _ _ r h => by simp [impl_goodJoints.l0] at h
 | k + 1 => by
  have ih0 := impl_goodJoints.mono_l k
  ·intro y0 y1 y2 y3 y4 y5 y6 y7
   unfold impl_goodJoints.l0
   repeat' first
   | (with_reducible exact ih0 _ _ _ _ _ _ _ _)
   | (with_reducible exact impl_compareJoints.mono _ _ _ _ _ _ _)
   | (with_reducible exact impl_isGlobal.mono _ _ _)
   | (with_reducible exact impl_locals.mono _ _ _)
   | (with_reducible exact LeO.refl _)
   | (with_reducible exact LeO.none _)
   | (with_reducible refine LeO.ite ?_ ?_)
   | (with_reducible refine LeO.bind ?_ (fun _ => ?_))
   | exact ih0 _ _ _ _ _ _ _ _
   | exact impl_compareJoints.mono _ _ _ _ _ _ _
   | exact impl_isGlobal.mono _ _ _
   | exact impl_locals.mono _ _ _
   | exact LeO.none _
   | refine LeO.ite ?_ ?_
   | refine LeO.bind ?_ (fun _ => ?_)
theorem impl_goodJoints.mono : ∀ a0 a1 a2 a3 a4 k, LeO (impl_goodJoints.f k a0 a1 a2 a3 a4) (impl_goodJoints.f (k + 1) a0 a1 a2 a3 a4) := by
 intro a0 a1 a2 a3 a4 k
 have ih0 := impl_goodJoints.mono_l k
 unfold impl_goodJoints.f
 repeat' first
   | (with_reducible exact ih0 _ _ _ _ _ _ _ _)
   | (with_reducible exact impl_compareJoints.mono _ _ _ _ _ _ _)
   | (with_reducible exact impl_isGlobal.mono _ _ _)
   | (with_reducible exact impl_locals.mono _ _ _)
   | (with_reducible exact LeO.refl _)
   | (with_reducible exact LeO.none _)
   | (with_reducible refine LeO.ite ?_ ?_)
   | (with_reducible refine LeO.bind ?_ (fun _ => ?_))
   | exact ih0 _ _ _ _ _ _ _ _
   | exact impl_compareJoints.mono _ _ _ _ _ _ _
   | exact impl_isGlobal.mono _ _ _
   | exact impl_locals.mono _ _ _
   | exact LeO.none _
   | refine LeO.ite ?_ ?_
   | refine LeO.bind ?_ (fun _ => ?_)
def impl_goodJoints.T4 : Bool × List (List Nat × List Nat) := (true, [([], []), ([0], [0]), ([], []), ([2], [2]), ([3], [3]), ([4], [4]), ([1, 5, 4], [1, 5]), ([6], [6])])
def impl_goodJoints.B4 : List Nat := [0, 1, 0, 4, 12, 28, 63, 127]
theorem impl_goodJoints.tab4 : rtab .any (opsOf Tryd.f83 4) = impl_goodJoints.T4 := by kernel_rfl
theorem impl_goodJoints.bits4 : waitsOk impl_goodJoints.T4.2 impl_goodJoints.B4 = true := by kernel_rfl
def impl_goodJoints.T6 : Bool × List (List Nat × List Nat) := (true, [([], []), ([0], [0]), ([], []), ([2], [2]), ([], []), ([4], [4]), ([3, 5], [3, 5]), ([6], [6]), ([1, 7], [1, 7]), ([8, 8, 0, 1, 2, 3, 4, 5, 6, 7, 8], [8])])
def impl_goodJoints.B6 : List Nat := [0, 1, 0, 4, 0, 16, 60, 124, 255, 511]
theorem impl_goodJoints.tab6 : rtab .any (opsOf Tryd.f83 6) = impl_goodJoints.T6 := by kernel_rfl
theorem impl_goodJoints.bits6 : waitsOk impl_goodJoints.T6.2 impl_goodJoints.B6 = true := by kernel_rfl
def impl_goodJoints.T7 : Bool × List (List Nat × List Nat) := (true, [([], []), ([], []), ([1], [1]), ([0, 2], [0, 2]), ([3], [3]), ([4, 3], [4]), ([5], [5]), ([5], [5]), ([7, 5], [5, 7]), ([6, 8, 5, 5], [5, 6, 8]), ([9, 5], [5, 9]), ([5, 10], [5, 10]), ([11, 9], [11]), ([12], [12]), ([13, 12], [12, 13]), ([14, 12, 12], [12, 14]), ([15], [15]), ([16, 15], [15, 16]), ([15], [15]), ([18, 15], [15, 18]), ([17, 19, 15], [15, 17, 19]), ([20, 15], [15, 20]), ([15], [15]), ([21, 22, 15, 15], [15, 21, 22]), ([23, 15], [15, 23]), ([15, 24, 12], [12, 15, 24]), ([12, 25], [12, 25])])
def impl_goodJoints.B7 : List Nat := [0, 0, 2, 7, 15, 31, 63, 63, 191, 511, 1023, 2047, 4095, 8191, 16383, 32767, 65535, 131071, 65535, 327679, 1048575, 2097151, 65535, 8388607, 16777215, 33554431, 67108863]
theorem impl_goodJoints.tab7 : rtab .any (opsOf Tryd.f83 7) = impl_goodJoints.T7 := by kernel_rfl
theorem impl_goodJoints.bits7 : waitsOk impl_goodJoints.T7.2 impl_goodJoints.B7 = true := by kernel_rfl
set_option maxHeartbeats 8000000 in
set_option maxRecDepth 100000 in
theorem impl_goodJoints.calls (k : Nat) (A0_0 : Option Addr) (c0_0 : Nat) (l0_0 : List Int) (A0_1 : Option Addr) (c0_1 : Nat) (l0_1 : List Int) (A0_2 : Option Addr) (c0_2 : Nat) (l0_2 : List Int) (A0_3 : Option Addr) (c0_3 : Nat) (l0_3 : List (S149)) (A0_4 : Option Addr) (c0_4 : Nat) (l0_4 : List (List Int)) (r : Bool) (w : World) (hr0_0 : Kd.C (Kd.int .i64) w A0_0 l0_0.length l0_0) (hc0_0 : l0_0.length ≤ c0_0) (hr0_1 : Kd.C (Kd.int .i64) w A0_1 l0_1.length l0_1) (hc0_1 : l0_1.length ≤ c0_1) (hr0_2 : Kd.C (Kd.int .i64) w A0_2 l0_2.length l0_2) (hc0_2 : l0_2.length ≤ c0_2) (hr0_3 : Kd.C k149 w A0_3 l0_3.length l0_3) (hc0_3 : l0_3.length ≤ c0_3) (hr0_4 : Kd.C (Kd.slice 2 (Kd.int .i64)) w A0_4 l0_4.length l0_4) (hc0_4 : l0_4.length ≤ c0_4) (h : impl_goodJoints.f k l0_0 l0_1 l0_2 l0_3 l0_4 = some r) (hTab : Tab w) :
  Calls Tryd.prog 83 #[.agg #[.slice A0_0 l0_0.length c0_0, .slice A0_1 l0_1.length c0_1, .slice A0_2 l0_2.length c0_2, .slice A0_3 l0_3.length c0_3, .slice A0_4 l0_4.length c0_4]] w fun e w' => e = .returned (.bool r) ∧ Below w.heap.size w w' := by
 have HTab := Aside0.mk hTab
 clear hTab
 have hu65 := Tryd.underlying65
 have hu149 := Tryd.underlying149
 have HR0_0 := Aside0.mk hr0_0
 have HC0_0 := Aside0.mk hc0_0
 clear hr0_0 hc0_0
 have HR0_1 := Aside0.mk hr0_1
 have HC0_1 := Aside0.mk hc0_1
 clear hr0_1 hc0_1
 have HR0_2 := Aside0.mk hr0_2
 have HC0_2 := Aside0.mk hc0_2
 clear hr0_2 hc0_2
 have HR0_3 := Aside0.mk hr0_3
 have HC0_3 := Aside0.mk hc0_3
 clear hr0_3 hc0_3
 have HR0_4 := Aside0.mk hr0_4
 have HC0_4 := Aside0.mk hc0_4
 clear hr0_4 hc0_4
 have HB := Aside0.mk (Below.refl w.heap.size w)
 have H : (impl_goodJoints.l0 k l0_3 (l0_3.length : Int) 0 l0_0 l0_1 l0_2 l0_3 l0_4) = some r := h
 clear h
 have H' := Aside0.mk H
 clear H
 go_enter Tryd.func83, Tryd.ntmps83
 go_wp2_with (first | ((with_reducible refine gate_dst (N := 1) rfl ?_); refine boxS (N := 1) (cs := #[.slice A0_0 l0_0.length c0_0, .slice A0_1 l0_1.length c0_1, .slice A0_2 l0_2.length c0_2, .slice A0_3 l0_3.length c0_3, .slice A0_4 l0_4.length c0_4]) (t := 65) ?_; intro gb557 hg w2 hbox hb; have n0_ := Aside0.mk (below_step (bW) hb); have n1_ := Aside0.mk (hbox); have n2_ := geW (w := w) hg; have n3_ := geW (w := w) hg; clear HB; have HB := n0_; have BK557 := n1_; have GW557 := n2_; have GE557 := n3_; clear n0_ n1_ n2_ n3_; clear hb hbox hg; have hcz3_0 : w2.cell? ⟨gb557, 0, none⟩ = some (.slice A0_0 l0_0.length c0_0) := (blk_cell BK557.out 0).trans rfl; have hcz3_1 : w2.cell? ⟨gb557, 1, none⟩ = some (.slice A0_1 l0_1.length c0_1) := (blk_cell BK557.out 1).trans rfl; have hcz3_2 : w2.cell? ⟨gb557, 2, none⟩ = some (.slice A0_2 l0_2.length c0_2) := (blk_cell BK557.out 2).trans rfl; have hcz3_3 : w2.cell? ⟨gb557, 3, none⟩ = some (.slice A0_3 l0_3.length c0_3) := (blk_cell BK557.out 3).trans rfl; have hcz3_4 : w2.cell? ⟨gb557, 4, none⟩ = some (.slice A0_4 l0_4.length c0_4) := (blk_cell BK557.out 4).trans rfl; have hfz3_0 := blk_frozen BK557.out 0; have hfz3_1 := blk_frozen BK557.out 1; have hfz3_2 := blk_frozen BK557.out 2; have hfz3_3 := blk_frozen BK557.out 3; have hfz3_4 := blk_frozen BK557.out 4))
 go_loopg [9] k (fun kq v9 w' => ∃ (x9_1 : Int), v9 = .int .i64 x9_1 ∧ Aside0 (impl_goodJoints.l0 kq l0_3 (l0_3.length : Int) x9_1 l0_0 l0_1 l0_2 l0_3 l0_4 = some r) ∧ Aside0 (kq ≤ k) ∧ Aside0 (w'.heap[gb557]? = some (.cells #[(.slice A0_0 l0_0.length c0_0), (.slice A0_1 l0_1.length c0_1), (.slice A0_2 l0_2.length c0_2), (.slice A0_3 l0_3.length c0_3), (.slice A0_4 l0_4.length c0_4)] 65 (0, 0))) ∧ Aside0 (Below w.heap.size w w'))
 case atStart => exact ⟨(0), (eW), H', ⟨Nat.le_refl _⟩, ⟨(bP BK557.out)⟩, ⟨bW⟩⟩
 case round =>
  clear H'
  try clear p2
  try clear hcz3_0
  try clear hcz3_1
  try clear hcz3_2
  try clear hcz3_3
  try clear hcz3_4
  try clear hfz3_0
  try clear hfz3_1
  try clear hfz3_2
  try clear hfz3_3
  try clear hfz3_4
  obtain ⟨x9_1, rfl, HA, HK1, BK557, HB⟩ := hrel
  cases gk with
  | zero => exact absurd HA.out (by simp [impl_goodJoints.l0])
  | succ k1 =>
   have H := HA.out
   clear HA
   simp only [impl_goodJoints.l0] at H
   by_cases c4 : x9_1 < (l0_3.length : Int)
   ·rw [if_pos c4] at H
    have c4b0 : decide (x9_1 < (l0_3.length : Int)) = true := decide_eq_true c4
    clear c4
    by_cases c5 : 0 ≤ x9_1
    ·rw [if_pos c5] at H
     have c5b0 : decide (0 ≤ x9_1) = true := decide_eq_true c5
     clear c5
     by_cases c6 : x9_1 < (l0_3.length : Int)
     ·rw [if_pos c6] at H
      have c6b0 : decide (x9_1 < (l0_3.length : Int)) = true := decide_eq_true c6
      clear c6
      replace H := Option.bind_eq_some_iff.mp H
      obtain ⟨t560, A70, H⟩ := H
      replace H : ((impl_inRange.f ((rd_T149 l0_3 x9_1).f0) 0 (wrap64 (t560 - 1))).bind fun t561 => (if t561 = true then (if 0 ≤ ((rd_T149 l0_3 x9_1).f0) then (if ((rd_T149 l0_3 x9_1).f0) < (l0_0.length : Int) then ((impl_locals.f k1 l0_1 (rd l0_0 ((rd_T149 l0_3 x9_1).f0))).bind fun t563 => ((impl_isGlobal.f k1 t563 ((rd_T149 l0_3 x9_1).f1)).bind fun t566 => (if t566 = true then ((impl_isGlobal.f k1 t563 ((rd_T149 l0_3 x9_1).f2)).bind fun t567 => (if t567 = true then (if x9_1 > 0 then (if 0 ≤ (wrap64 (x9_1 - 1)) then (if (wrap64 (x9_1 - 1)) < (l0_3.length : Int) then ((impl_compareJoints.f k1 ((rd_T149 l0_3 (wrap64 (x9_1 - 1))).f0) ((rd_T149 l0_3 (wrap64 (x9_1 - 1))).f1) ((rd_T149 l0_3 (wrap64 (x9_1 - 1))).f2) ((rd_T149 l0_3 x9_1).f0) ((rd_T149 l0_3 x9_1).f1) ((rd_T149 l0_3 x9_1).f2)).bind fun t569 => (if t569 ≥ 0 then (some false) else (impl_goodJoints.l0 k1 l0_3 (l0_3.length : Int) (wrap64 (x9_1 + 1)) l0_0 l0_1 l0_2 l0_3 l0_4))) else (none)) else (none)) else (impl_goodJoints.l0 k1 l0_3 (l0_3.length : Int) (wrap64 (x9_1 + 1)) l0_0 l0_1 l0_2 l0_3 l0_4)) else (some false))) else (some false)))) else (none)) else (none)) else (some false))) = some r := H
      have A7 := Aside0.mk A70
      clear A70
      replace H := Option.bind_eq_some_iff.mp H
      obtain ⟨t561, A80, H⟩ := H
      replace H : (if t561 = true then (if 0 ≤ ((rd_T149 l0_3 x9_1).f0) then (if ((rd_T149 l0_3 x9_1).f0) < (l0_0.length : Int) then ((impl_locals.f k1 l0_1 (rd l0_0 ((rd_T149 l0_3 x9_1).f0))).bind fun t563 => ((impl_isGlobal.f k1 t563 ((rd_T149 l0_3 x9_1).f1)).bind fun t566 => (if t566 = true then ((impl_isGlobal.f k1 t563 ((rd_T149 l0_3 x9_1).f2)).bind fun t567 => (if t567 = true then (if x9_1 > 0 then (if 0 ≤ (wrap64 (x9_1 - 1)) then (if (wrap64 (x9_1 - 1)) < (l0_3.length : Int) then ((impl_compareJoints.f k1 ((rd_T149 l0_3 (wrap64 (x9_1 - 1))).f0) ((rd_T149 l0_3 (wrap64 (x9_1 - 1))).f1) ((rd_T149 l0_3 (wrap64 (x9_1 - 1))).f2) ((rd_T149 l0_3 x9_1).f0) ((rd_T149 l0_3 x9_1).f1) ((rd_T149 l0_3 x9_1).f2)).bind fun t569 => (if t569 ≥ 0 then (some false) else (impl_goodJoints.l0 k1 l0_3 (l0_3.length : Int) (wrap64 (x9_1 + 1)) l0_0 l0_1 l0_2 l0_3 l0_4))) else (none)) else (none)) else (impl_goodJoints.l0 k1 l0_3 (l0_3.length : Int) (wrap64 (x9_1 + 1)) l0_0 l0_1 l0_2 l0_3 l0_4)) else (some false))) else (some false)))) else (none)) else (none)) else (some false)) = some r := H
      have A8 := Aside0.mk A80
      clear A80
      by_cases c9 : t561 = true
      ·subst c9
       have H1 : (if 0 ≤ ((rd_T149 l0_3 x9_1).f0) then (if ((rd_T149 l0_3 x9_1).f0) < (l0_0.length : Int) then ((impl_locals.f k1 l0_1 (rd l0_0 ((rd_T149 l0_3 x9_1).f0))).bind fun t563 => ((impl_isGlobal.f k1 t563 ((rd_T149 l0_3 x9_1).f1)).bind fun t566 => (if t566 = true then ((impl_isGlobal.f k1 t563 ((rd_T149 l0_3 x9_1).f2)).bind fun t567 => (if t567 = true then (if x9_1 > 0 then (if 0 ≤ (wrap64 (x9_1 - 1)) then (if (wrap64 (x9_1 - 1)) < (l0_3.length : Int) then ((impl_compareJoints.f k1 ((rd_T149 l0_3 (wrap64 (x9_1 - 1))).f0) ((rd_T149 l0_3 (wrap64 (x9_1 - 1))).f1) ((rd_T149 l0_3 (wrap64 (x9_1 - 1))).f2) ((rd_T149 l0_3 x9_1).f0) ((rd_T149 l0_3 x9_1).f1) ((rd_T149 l0_3 x9_1).f2)).bind fun t569 => (if t569 ≥ 0 then (some false) else (impl_goodJoints.l0 k1 l0_3 (l0_3.length : Int) (wrap64 (x9_1 + 1)) l0_0 l0_1 l0_2 l0_3 l0_4))) else (none)) else (none)) else (impl_goodJoints.l0 k1 l0_3 (l0_3.length : Int) (wrap64 (x9_1 + 1)) l0_0 l0_1 l0_2 l0_3 l0_4)) else (some false))) else (some false)))) else (none)) else (none)) = some r := by rw [if_pos rfl] at H; exact H
       clear H
       have H := H1
       clear H1
       by_cases c10 : 0 ≤ ((rd_T149 l0_3 x9_1).f0)
       ·rw [if_pos c10] at H
        have c10b0 : decide (0 ≤ ((rd_T149 l0_3 x9_1).f0)) = true := decide_eq_true c10
        clear c10
        by_cases c11 : ((rd_T149 l0_3 x9_1).f0) < (l0_0.length : Int)
        ·rw [if_pos c11] at H
         have c11b0 : decide (((rd_T149 l0_3 x9_1).f0) < (l0_0.length : Int)) = true := decide_eq_true c11
         clear c11
         replace H := Option.bind_eq_some_iff.mp H
         obtain ⟨t563, A120, H⟩ := H
         replace H : ((impl_isGlobal.f k1 t563 ((rd_T149 l0_3 x9_1).f1)).bind fun t566 => (if t566 = true then ((impl_isGlobal.f k1 t563 ((rd_T149 l0_3 x9_1).f2)).bind fun t567 => (if t567 = true then (if x9_1 > 0 then (if 0 ≤ (wrap64 (x9_1 - 1)) then (if (wrap64 (x9_1 - 1)) < (l0_3.length : Int) then ((impl_compareJoints.f k1 ((rd_T149 l0_3 (wrap64 (x9_1 - 1))).f0) ((rd_T149 l0_3 (wrap64 (x9_1 - 1))).f1) ((rd_T149 l0_3 (wrap64 (x9_1 - 1))).f2) ((rd_T149 l0_3 x9_1).f0) ((rd_T149 l0_3 x9_1).f1) ((rd_T149 l0_3 x9_1).f2)).bind fun t569 => (if t569 ≥ 0 then (some false) else (impl_goodJoints.l0 k1 l0_3 (l0_3.length : Int) (wrap64 (x9_1 + 1)) l0_0 l0_1 l0_2 l0_3 l0_4))) else (none)) else (none)) else (impl_goodJoints.l0 k1 l0_3 (l0_3.length : Int) (wrap64 (x9_1 + 1)) l0_0 l0_1 l0_2 l0_3 l0_4)) else (some false))) else (some false))) = some r := H
         have A12 := Aside0.mk A120
         clear A120
         replace H := Option.bind_eq_some_iff.mp H
         obtain ⟨t566, A130, H⟩ := H
         replace H : (if t566 = true then ((impl_isGlobal.f k1 t563 ((rd_T149 l0_3 x9_1).f2)).bind fun t567 => (if t567 = true then (if x9_1 > 0 then (if 0 ≤ (wrap64 (x9_1 - 1)) then (if (wrap64 (x9_1 - 1)) < (l0_3.length : Int) then ((impl_compareJoints.f k1 ((rd_T149 l0_3 (wrap64 (x9_1 - 1))).f0) ((rd_T149 l0_3 (wrap64 (x9_1 - 1))).f1) ((rd_T149 l0_3 (wrap64 (x9_1 - 1))).f2) ((rd_T149 l0_3 x9_1).f0) ((rd_T149 l0_3 x9_1).f1) ((rd_T149 l0_3 x9_1).f2)).bind fun t569 => (if t569 ≥ 0 then (some false) else (impl_goodJoints.l0 k1 l0_3 (l0_3.length : Int) (wrap64 (x9_1 + 1)) l0_0 l0_1 l0_2 l0_3 l0_4))) else (none)) else (none)) else (impl_goodJoints.l0 k1 l0_3 (l0_3.length : Int) (wrap64 (x9_1 + 1)) l0_0 l0_1 l0_2 l0_3 l0_4)) else (some false))) else (some false)) = some r := H
         have A13 := Aside0.mk A130
         clear A130
         by_cases c14 : t566 = true
         ·subst c14
          have H1 : ((impl_isGlobal.f k1 t563 ((rd_T149 l0_3 x9_1).f2)).bind fun t567 => (if t567 = true then (if x9_1 > 0 then (if 0 ≤ (wrap64 (x9_1 - 1)) then (if (wrap64 (x9_1 - 1)) < (l0_3.length : Int) then ((impl_compareJoints.f k1 ((rd_T149 l0_3 (wrap64 (x9_1 - 1))).f0) ((rd_T149 l0_3 (wrap64 (x9_1 - 1))).f1) ((rd_T149 l0_3 (wrap64 (x9_1 - 1))).f2) ((rd_T149 l0_3 x9_1).f0) ((rd_T149 l0_3 x9_1).f1) ((rd_T149 l0_3 x9_1).f2)).bind fun t569 => (if t569 ≥ 0 then (some false) else (impl_goodJoints.l0 k1 l0_3 (l0_3.length : Int) (wrap64 (x9_1 + 1)) l0_0 l0_1 l0_2 l0_3 l0_4))) else (none)) else (none)) else (impl_goodJoints.l0 k1 l0_3 (l0_3.length : Int) (wrap64 (x9_1 + 1)) l0_0 l0_1 l0_2 l0_3 l0_4)) else (some false))) = some r := by rw [if_pos rfl] at H; exact H
          clear H
          have H := H1
          clear H1
          replace H := Option.bind_eq_some_iff.mp H
          obtain ⟨t567, A150, H⟩ := H
          replace H : (if t567 = true then (if x9_1 > 0 then (if 0 ≤ (wrap64 (x9_1 - 1)) then (if (wrap64 (x9_1 - 1)) < (l0_3.length : Int) then ((impl_compareJoints.f k1 ((rd_T149 l0_3 (wrap64 (x9_1 - 1))).f0) ((rd_T149 l0_3 (wrap64 (x9_1 - 1))).f1) ((rd_T149 l0_3 (wrap64 (x9_1 - 1))).f2) ((rd_T149 l0_3 x9_1).f0) ((rd_T149 l0_3 x9_1).f1) ((rd_T149 l0_3 x9_1).f2)).bind fun t569 => (if t569 ≥ 0 then (some false) else (impl_goodJoints.l0 k1 l0_3 (l0_3.length : Int) (wrap64 (x9_1 + 1)) l0_0 l0_1 l0_2 l0_3 l0_4))) else (none)) else (none)) else (impl_goodJoints.l0 k1 l0_3 (l0_3.length : Int) (wrap64 (x9_1 + 1)) l0_0 l0_1 l0_2 l0_3 l0_4)) else (some false)) = some r := H
          have A15 := Aside0.mk A150
          clear A150
          by_cases c16 : t567 = true
          ·subst c16
           have H1 : (if x9_1 > 0 then (if 0 ≤ (wrap64 (x9_1 - 1)) then (if (wrap64 (x9_1 - 1)) < (l0_3.length : Int) then ((impl_compareJoints.f k1 ((rd_T149 l0_3 (wrap64 (x9_1 - 1))).f0) ((rd_T149 l0_3 (wrap64 (x9_1 - 1))).f1) ((rd_T149 l0_3 (wrap64 (x9_1 - 1))).f2) ((rd_T149 l0_3 x9_1).f0) ((rd_T149 l0_3 x9_1).f1) ((rd_T149 l0_3 x9_1).f2)).bind fun t569 => (if t569 ≥ 0 then (some false) else (impl_goodJoints.l0 k1 l0_3 (l0_3.length : Int) (wrap64 (x9_1 + 1)) l0_0 l0_1 l0_2 l0_3 l0_4))) else (none)) else (none)) else (impl_goodJoints.l0 k1 l0_3 (l0_3.length : Int) (wrap64 (x9_1 + 1)) l0_0 l0_1 l0_2 l0_3 l0_4)) = some r := by rw [if_pos rfl] at H; exact H
           clear H
           have H := H1
           clear H1
           by_cases c17 : x9_1 > 0
           ·rw [if_pos c17] at H
            have c17b0 : decide (0 < x9_1) = true := decide_eq_true c17
            clear c17
            obtain ⟨ji18, hji18⟩ : ∃ j_ : Int, (wrap64 (x9_1 - 1)) = j_ := ⟨_, rfl⟩
            replace H : (if 0 ≤ (ji18) then (if (ji18) < (l0_3.length : Int) then ((impl_compareJoints.f k1 ((rd_T149 l0_3 (ji18)).f0) ((rd_T149 l0_3 (ji18)).f1) ((rd_T149 l0_3 (ji18)).f2) ((rd_T149 l0_3 x9_1).f0) ((rd_T149 l0_3 x9_1).f1) ((rd_T149 l0_3 x9_1).f2)).bind fun t569 => (if t569 ≥ 0 then (some false) else (impl_goodJoints.l0 k1 l0_3 (l0_3.length : Int) (wrap64 (x9_1 + 1)) l0_0 l0_1 l0_2 l0_3 l0_4))) else (none)) else (none)) = some r := by first | (rw [hji18] at H; exact H) | (simp only [hji18] at H ⊢; exact H)
            (try rw [hji18] at A7)
            (try rw [hji18] at A8)
            (try rw [hji18] at A12)
            (try rw [hji18] at A13)
            (try rw [hji18] at A15)
            have hji18w : (IntKind.i64.wrap (x9_1 - 1)) = ji18 := (i64_w _).trans hji18
            by_cases c19 : 0 ≤ (ji18)
            ·rw [if_pos c19] at H
             have c19b0 : decide (0 ≤ (ji18)) = true := decide_eq_true c19
             clear c19
             by_cases c20 : (ji18) < (l0_3.length : Int)
             ·rw [if_pos c20] at H
              have c20b0 : decide ((ji18) < (l0_3.length : Int)) = true := decide_eq_true c20
              clear c20
              replace H := Option.bind_eq_some_iff.mp H
              obtain ⟨t569, A210, H⟩ := H
              replace H : (if t569 ≥ 0 then (some false) else (impl_goodJoints.l0 k1 l0_3 (l0_3.length : Int) (wrap64 (x9_1 + 1)) l0_0 l0_1 l0_2 l0_3 l0_4)) = some r := H
              have A21 := Aside0.mk A210
              clear A210
              by_cases c22 : t569 ≥ 0
              ·rw [if_pos c22] at H
               have c22b0 : decide (0 ≤ t569) = true := decide_eq_true c22
               clear c22
               obtain rfl := Option.some.inj H
               have p558 : 0 ≤ (x9_1 : Int) := ofD
               have q558 : x9_1 < (l0_3.length : Int) := ofD
               obtain ⟨ad558, A558_1, c558_1, A558_2, c558_2, e558, hx558_0, hx558_1, hx558_2, hl558_1, hi558_1, hl558_2, hi558_2⟩ := at_T149 HR0_3.out x9_1 p558 q558
               cases e558
               replace hx558_0 := (HB.out.cell (World.block_lt_of_cell? w _ hx558_0)).trans hx558_0
               replace hx558_1 := (HB.out.cell (World.block_lt_of_cell? w _ hx558_1)).trans hx558_1
               replace hx558_2 := (HB.out.cell (World.block_lt_of_cell? w _ hx558_2)).trans hx558_2
               have HR558_1 := Aside0.mk hi558_1
               have HC558_1 := Aside0.mk hl558_1
               clear hi558_1 hl558_1
               have HR558_2 := Aside0.mk hi558_2
               have HC558_2 := Aside0.mk hl558_2
               clear hi558_2 hl558_2
               replace p558 := eq_true p558
               replace q558 := eq_true q558
               try go_wp2_with (first | ((with_reducible refine gate_dst (N := 4) rfl ?_); refine boxS (N := 4) (cs := #[.int .i64 0, .slice none 0 0, .slice none 0 0]) (t := 149) ?_; intro gb559 hg w23 hbox hb; have n0_ := Aside0.mk (blkB BK557.out hb); have n1_ := Aside0.mk (below_step (bW) hb); have n2_ := Aside0.mk (hbox); have n3_ := geW (w := w) hg; have n4_ := geW (w := w) hg; have n5_ := Aside0.mk ((by rw [hg]; exact Nat.ne_of_lt (blk_lt (g := gb557) (o := .cells #[.slice A0_0 l0_0.length c0_0, .slice A0_1 l0_1.length c0_1, .slice A0_2 l0_2.length c0_2, .slice (some ad558) l0_3.length c0_3, .slice A0_4 l0_4.length c0_4] 65 (0, 0)) (bP BK557.out)) : gb557 ≠ gb559)); have n6_ := Aside0.mk ((by rw [hg]; exact Nat.ne_of_gt (blk_lt (g := gb557) (o := .cells #[.slice A0_0 l0_0.length c0_0, .slice A0_1 l0_1.length c0_1, .slice A0_2 l0_2.length c0_2, .slice (some ad558) l0_3.length c0_3, .slice A0_4 l0_4.length c0_4] 65 (0, 0)) (bP BK557.out)) : gb559 ≠ gb557)); clear BK557; clear HB; have BK557 := n0_; have HB := n1_; have BK559 := n2_; have GW559 := n3_; have GE559 := n4_; have NB557_559 := n5_; have NB559_557 := n6_; clear n0_ n1_ n2_ n3_ n4_ n5_ n6_; clear hb hbox hg; have hnb24 := NB559_557.out; have hnc24 := NB557_559.out; obtain ⟨hcz25_0, hcz25_1, hcz25_2⟩ := cells3 BK559.out; obtain ⟨hfz25_0, hfz25_1, hfz25_2⟩ := frz3 BK559.out))
               have n0_ : Aside0 ((((w23.setCell ⟨gb559, 0, none⟩ (.int .i64 ((rd_T149 l0_3 x9_1).f0))).setCell ⟨gb559, 1, none⟩ (.slice A558_1 ((rd_T149 l0_3 x9_1).f1).length c558_1)).setCell ⟨gb559, 2, none⟩ (.slice A558_2 ((rd_T149 l0_3 x9_1).f2).length c558_2)).heap[gb557]? = some (.cells #[.slice A0_0 l0_0.length c0_0, .slice A0_1 l0_1.length c0_1, .slice A0_2 l0_2.length c0_2, .slice (some ad558) l0_3.length c0_3, .slice A0_4 l0_4.length c0_4] 65 (0, 0))) := ⟨by (with_reducible repeat (first | refine blk_drewN ?_ _ | refine blk_drew ?_ | refine blk_alloc ?_ _)); refine blk_far ?_ NB557_559.out _; (with_reducible repeat (first | refine blk_drewN ?_ _ | refine blk_drew ?_ | refine blk_alloc ?_ _)); refine blk_far ?_ NB557_559.out _; (with_reducible repeat (first | refine blk_drewN ?_ _ | refine blk_drew ?_ | refine blk_alloc ?_ _)); refine blk_far ?_ NB557_559.out _; exact bP BK557.out⟩
               have n1_ : Aside0 ((((w23.setCell ⟨gb559, 0, none⟩ (.int .i64 ((rd_T149 l0_3 x9_1).f0))).setCell ⟨gb559, 1, none⟩ (.slice A558_1 ((rd_T149 l0_3 x9_1).f1).length c558_1)).setCell ⟨gb559, 2, none⟩ (.slice A558_2 ((rd_T149 l0_3 x9_1).f2).length c558_2)).heap[gb559]? = some (.cells #[.int .i64 ((rd_T149 l0_3 x9_1).f0), .slice A558_1 ((rd_T149 l0_3 x9_1).f1).length c558_1, .slice A558_2 ((rd_T149 l0_3 x9_1).f2).length c558_2] 149 (0, 0))) := ⟨by (with_reducible repeat (first | refine blk_drewN ?_ _ | refine blk_drew ?_ | refine blk_alloc ?_ _)); refine blk_put (cs := #[.int .i64 ((rd_T149 l0_3 x9_1).f0), .slice A558_1 ((rd_T149 l0_3 x9_1).f1).length c558_1, .slice none 0 0]) ?_ 2 _ rfl; (with_reducible repeat (first | refine blk_drewN ?_ _ | refine blk_drew ?_ | refine blk_alloc ?_ _)); refine blk_put (cs := #[.int .i64 ((rd_T149 l0_3 x9_1).f0), .slice none 0 0, .slice none 0 0]) ?_ 1 _ rfl; (with_reducible repeat (first | refine blk_drewN ?_ _ | refine blk_drew ?_ | refine blk_alloc ?_ _)); refine blk_put (cs := #[.int .i64 0, .slice none 0 0, .slice none 0 0]) ?_ 0 _ rfl; exact bP BK559.out⟩
               have n2_ : Aside0 (Below w.heap.size w (((w23.setCell ⟨gb559, 0, none⟩ (.int .i64 ((rd_T149 l0_3 x9_1).f0))).setCell ⟨gb559, 1, none⟩ (.slice A558_1 ((rd_T149 l0_3 x9_1).f1).length c558_1)).setCell ⟨gb559, 2, none⟩ (.slice A558_2 ((rd_T149 l0_3 x9_1).f2).length c558_2))) := ⟨bW⟩
               (try clear BK557)
               (try clear BK559)
               (try clear HB)
               generalize (((w23.setCell ⟨gb559, 0, none⟩ (.int .i64 ((rd_T149 l0_3 x9_1).f0))).setCell ⟨gb559, 1, none⟩ (.slice A558_1 ((rd_T149 l0_3 x9_1).f1).length c558_1)).setCell ⟨gb559, 2, none⟩ (.slice A558_2 ((rd_T149 l0_3 x9_1).f2).length c558_2)) = w26 at n0_ n1_ n2_ ⊢
               have BK557 := n0_
               have BK559 := n1_
               have HB := n2_
               clear n0_ n1_ n2_
               have n0_ := Aside0.mk (blk_drew BK557.out)
               have n1_ := Aside0.mk (blk_drew BK559.out)
               have n2_ := Aside0.mk (below_drew1 HB.out)
               clear BK557
               clear BK559
               clear HB
               have BK557 := n0_
               have BK559 := n1_
               have HB := n2_
               clear n0_ n1_ n2_
               refine start_ (n := 8) (S := fun w' => w'.cell? ⟨gb559, 0, none⟩ = some (.int .i64 ((rd_T149 l0_3 x9_1).f0)) ∧ w'.cell? ⟨gb559, 1, none⟩ = some (.slice A558_1 ((rd_T149 l0_3 x9_1).f1).length c558_1) ∧ w'.cell? ⟨gb559, 2, none⟩ = some (.slice A558_2 ((rd_T149 l0_3 x9_1).f2).length c558_2) ∧ w'.cell? ⟨gb557, 0, none⟩ = some (.slice A0_0 l0_0.length c0_0) ∧ w'.cell? ⟨gb557, 1, none⟩ = some (.slice A0_1 l0_1.length c0_1) ∧ w'.cell? ⟨gb557, 2, none⟩ = some (.slice A0_2 l0_2.length c0_2) ∧ w'.cell? ⟨gb557, 3, none⟩ = some (.slice (some ad558) l0_3.length c0_3) ∧ w'.cell? ⟨gb557, 4, none⟩ = some (.slice A0_4 l0_4.length c0_4)) (ds := []) #[false, false, false, false, false, false, false, false] (by kernel_rfl) rfl rfl ⟨(blk_cell BK559.out 0).trans rfl, (blk_cell BK559.out 1).trans rfl, (blk_cell BK559.out 2).trans rfl, (blk_cell BK557.out 0).trans rfl, (blk_cell BK557.out 1).trans rfl, (blk_cell BK557.out 2).trans rfl, (blk_cell BK557.out 3).trans rfl, (blk_cell BK557.out 4).trans rfl⟩ (fun hHeld => ?_); refine with_tabW impl_goodJoints.tab4 impl_goodJoints.bits4 (fun HT_ HW_ => ?_)
               generalize w26.drew = w27 at BK557 BK559 HB hHeld ⊢
               refine pureS (i := 0) (N := some 14) (any_of HT_.out (by kernel_rfl)) ?_
               refine pureS (i := 2) (N := some 16) (any_of HT_.out (by kernel_rfl)) ?_
               refine takeS (i := 1) (N := some 15) (take_ofW HT_.out HW_.out (by kernel_rfl)) hHeld ?_
               refine takeS (i := 3) (N := some 17) (take_ofW HT_.out HW_.out (by kernel_rfl)) hHeld ?_
               refine one_ (i := 4) (N := some 18) #[true, true, true, true, true, false, false, false] rfl rfl (one_of HT_.out (by kernel_rfl)) (by decide) (fun K hK => ?_)
               refine goes_ Tryd.func80 (by kernel_rfl) rfl #[.slice A0_0 l0_0.length c0_0] (by rfl) rfl rfl (by (try simp only [List.map_toArray, List.map_cons, List.map_nil]); first | done | rfl | (simp only [List.length_drop, List.length_take]; rfl)) ?_
               with_reducible refine (impl_length_int64_80.calls _ _ l0_0 t560 _ ?side1 ?side2 A7.out).mono ?_
               (case side1 => exact cP (Kd.C_below HR0_0.out HB.out))
               (case side2 => exact HC0_0.out)
               rintro e w' ⟨rfl, ⟨nd, rfl⟩⟩
               refine ⟨_, rfl, ?_⟩
               refine hK.out _ _ ⟨(blk_cell BK559.out 0).trans rfl, (blk_cell BK559.out 1).trans rfl, (blk_cell BK559.out 2).trans rfl, (blk_cell BK557.out 0).trans rfl, (blk_cell BK557.out 1).trans rfl, (blk_cell BK557.out 2).trans rfl, (blk_cell BK557.out 3).trans rfl, (blk_cell BK557.out 4).trans rfl⟩ (fun hHeld => ?_)
               clear hK K
               refine norm_ (a' := ?_) ?_ ?_
               rotate_left
               ·show Act.put _ (some 18) _ = _
                simp only [Act.put, List.setIfInBounds_toArray, List.set_cons_zero, List.set_cons_succ, i64_w, i32_w]
                rfl
               refine pureS (i := 5) (N := some 19) (any_of HT_.out (by kernel_rfl)) ?_
               refine one_ (i := 6) (N := some 20) #[true, true, true, true, true, true, true, false] rfl rfl (one_of HT_.out (by kernel_rfl)) (by decide) (fun K hK => ?_)
               refine goes_ Tryd.func109 (by kernel_rfl) rfl #[.int .i64 ((rd_T149 l0_3 x9_1).f0), .int .i64 0, .int .i64 (wrap64 (t560 - 1))] (by rfl) rfl rfl (by (try simp only [List.map_toArray, List.map_cons, List.map_nil]); first | done | rfl | (simp only [List.length_drop, List.length_take]; rfl)) ?_
               with_reducible refine (impl_inRange.calls ((rd_T149 l0_3 x9_1).f0) 0 (wrap64 (t560 - 1)) true _ A8.out).mono ?_
               rintro e w' ⟨rfl, ⟨nd, rfl⟩⟩
               refine ⟨_, rfl, ?_⟩
               refine hK.out _ _ ⟨(blk_cell BK559.out 0).trans rfl, (blk_cell BK559.out 1).trans rfl, (blk_cell BK559.out 2).trans rfl, (blk_cell BK557.out 0).trans rfl, (blk_cell BK557.out 1).trans rfl, (blk_cell BK557.out 2).trans rfl, (blk_cell BK557.out 3).trans rfl, (blk_cell BK557.out 4).trans rfl⟩ (fun hHeld => ?_)
               clear hK K
               refine norm_ (a' := ?_) ?_ ?_
               rotate_left
               ·show Act.put _ (some 20) _ = _
                simp only [Act.put, List.setIfInBounds_toArray, List.set_cons_zero, List.set_cons_succ, i64_w, i32_w]
                rfl
               refine pureS (i := 7) (N := some 21) (any_of HT_.out (by kernel_rfl)) ?_
               refine done_ (done_of HT_.out (by kernel_rfl)) ?_
               try go_wp2
               (try ((repeat rw [World.drewN_drewN w27]); (first | generalize hq_ : World.drewN w27 _ = w27 | (rw [drewN_self w27]; generalize hq_ : World.drewN w27 _ = w27)); have n0_ : Aside0 (w27.heap[gb557]? = some (.cells #[.slice A0_0 l0_0.length c0_0, .slice A0_1 l0_1.length c0_1, .slice A0_2 l0_2.length c0_2, .slice (some ad558) l0_3.length c0_3, .slice A0_4 l0_4.length c0_4] 65 (0, 0))) := ⟨by rw [← hq_]; exact (bP BK557.out)⟩; have n1_ : Aside0 (w27.heap[gb559]? = some (.cells #[.int .i64 ((rd_T149 l0_3 x9_1).f0), .slice A558_1 ((rd_T149 l0_3 x9_1).f1).length c558_1, .slice A558_2 ((rd_T149 l0_3 x9_1).f2).length c558_2] 149 (0, 0))) := ⟨by rw [← hq_]; exact (bP BK559.out)⟩; have n2_ : Aside0 (Below w.heap.size w w27) := ⟨by rw [← hq_]; exact (bW)⟩; clear BK557 BK559 HB hq_; have BK557 := n0_; have BK559 := n1_; have HB := n2_; clear n0_ n1_ n2_))
               have n0_ := Aside0.mk (blk_drew BK557.out)
               have n1_ := Aside0.mk (blk_drew BK559.out)
               have n2_ := Aside0.mk (below_drew1 HB.out)
               clear BK557
               clear BK559
               clear HB
               have BK557 := n0_
               have BK559 := n1_
               have HB := n2_
               clear n0_ n1_ n2_
               have p562 : 0 ≤ (((rd_T149 l0_3 x9_1).f0) : Int) := ofD
               have q562 : ((rd_T149 l0_3 x9_1).f0) < (l0_0.length : Int) := ofD
               obtain ⟨ad562, e562, hx562_0⟩ := Kd.at_int HR0_0.out ((rd_T149 l0_3 x9_1).f0) p562 q562
               have hw562_0 := hx562_0
               cases e562
               replace hx562_0 := (HB.out.cell (World.block_lt_of_cell? w _ hx562_0)).trans hx562_0
               replace p562 := eq_true p562
               replace q562 := eq_true q562
               refine start_ (n := 10) (S := fun w' => w'.cell? ⟨gb557, 0, none⟩ = some (.slice (some ad562) l0_0.length c0_0) ∧ w'.cell? ⟨gb557, 1, none⟩ = some (.slice A0_1 l0_1.length c0_1) ∧ w'.cell? ⟨gb557, 2, none⟩ = some (.slice A0_2 l0_2.length c0_2) ∧ w'.cell? ⟨gb557, 3, none⟩ = some (.slice (some ad558) l0_3.length c0_3) ∧ w'.cell? ⟨gb557, 4, none⟩ = some (.slice A0_4 l0_4.length c0_4) ∧ w'.cell? ⟨gb559, 0, none⟩ = some (.int .i64 ((rd_T149 l0_3 x9_1).f0)) ∧ w'.cell? ⟨gb559, 1, none⟩ = some (.slice A558_1 ((rd_T149 l0_3 x9_1).f1).length c558_1) ∧ w'.cell? ⟨gb559, 2, none⟩ = some (.slice A558_2 ((rd_T149 l0_3 x9_1).f2).length c558_2) ∧ w'.cell? (ad562.add (((rd_T149 l0_3 x9_1).f0)).toNat) = some (.int .i64 (rd l0_0 ((rd_T149 l0_3 x9_1).f0)))) (ds := []) #[false, false, false, false, false, false, false, false, false, false] (by kernel_rfl) rfl rfl ⟨(blk_cell BK557.out 0).trans rfl, (blk_cell BK557.out 1).trans rfl, (blk_cell BK557.out 2).trans rfl, (blk_cell BK557.out 3).trans rfl, (blk_cell BK557.out 4).trans rfl, (blk_cell BK559.out 0).trans rfl, (blk_cell BK559.out 1).trans rfl, (blk_cell BK559.out 2).trans rfl, ((HB.out.cell (World.block_lt_of_cell? w _ hw562_0)).trans hw562_0)⟩ (fun hHeld => ?_); refine with_tabW impl_goodJoints.tab6 impl_goodJoints.bits6 (fun HT_ HW_ => ?_)
               generalize w27.drew = w28 at BK557 BK559 HB hx562_0 hHeld ⊢
               refine pureS (i := 0) (N := some 22) (any_of HT_.out (by kernel_rfl)) ?_
               refine pureS (i := 2) (N := some 24) (any_of HT_.out (by kernel_rfl)) ?_
               refine pureS (i := 4) (N := some 26) (any_of HT_.out (by kernel_rfl)) ?_
               refine takeS (i := 1) (N := some 23) (take_ofW HT_.out HW_.out (by kernel_rfl)) hHeld ?_
               refine takeS (i := 3) (N := some 25) (take_ofW HT_.out HW_.out (by kernel_rfl)) hHeld ?_
               refine takeS (i := 5) (N := some 27) (take_ofW HT_.out HW_.out (by kernel_rfl)) hHeld ?_
               refine pureS (i := 6) (N := some 28) (any_of HT_.out (by kernel_rfl)) ?_
               refine takeS (i := 7) (N := some 29) (take_ofW HT_.out HW_.out (by kernel_rfl)) hHeld ?_
               refine one_ (i := 8) (N := some 30) #[true, true, true, true, true, true, true, true, true, false] rfl rfl (one_of HT_.out (by kernel_rfl)) (by decide) (fun K hK => ?_)
               refine goes_ Tryd.func132 (by kernel_rfl) rfl #[.slice A0_1 l0_1.length c0_1, .int .i64 (rd l0_0 ((rd_T149 l0_3 x9_1).f0))] (by rfl) rfl rfl (by (try simp only [List.map_toArray, List.map_cons, List.map_nil]); first | done | rfl | (simp only [List.length_drop, List.length_take]; rfl)) ?_
               with_reducible refine (impl_locals.calls k1 _ _ l0_1 (rd l0_0 ((rd_T149 l0_3 x9_1).f0)) t563 _ ?side1 ?side2 A12.out (tabW HTab.out)).mono ?_
               (case side1 => exact cP (Kd.C_below HR0_1.out HB.out))
               (case side2 => exact HC0_1.out)
               rintro e w29 ⟨v564, rfl, ho0, hb⟩
               refine ⟨_, rfl, ?_⟩
               have n0_ := Aside0.mk (Kd.R_lower ho0 (below_size (bW)))
               have n1_ := Aside0.mk (blkB BK557.out hb)
               have n2_ := Aside0.mk (blkB BK559.out hb)
               have n3_ := Aside0.mk (below_step (bW) hb)
               clear BK557
               clear BK559
               clear HB
               have HO565 := n0_
               have BK557 := n1_
               have BK559 := n2_
               have HB := n3_
               clear n0_ n1_ n2_ n3_
               (try clear hb)
               (try clear hb2)
               (try clear hk)
               (try clear hi)
               (try clear ho0)
               refine hK.out _ _ ⟨(blk_cell BK557.out 0).trans rfl, (blk_cell BK557.out 1).trans rfl, (blk_cell BK557.out 2).trans rfl, (blk_cell BK557.out 3).trans rfl, (blk_cell BK557.out 4).trans rfl, (blk_cell BK559.out 0).trans rfl, (blk_cell BK559.out 1).trans rfl, (blk_cell BK559.out 2).trans rfl, ((HB.out.cell (World.block_lt_of_cell? w _ hw562_0)).trans hw562_0)⟩ (fun hHeld => ?_)
               clear hK K
               refine norm_ (a' := ?_) ?_ ?_
               rotate_left
               ·show Act.put _ (some 30) _ = _
                simp only [Act.put, List.setIfInBounds_toArray, List.set_cons_zero, List.set_cons_succ, i64_w, i32_w]
                rfl
               refine pureS (i := 9) (N := some 5) (any_of HT_.out (by kernel_rfl)) ?_
               refine done_ (done_of HT_.out (by kernel_rfl)) ?_
               try go_wp2
               have n0_ := Aside0.mk (Kd.R_drew HO565.out)
               have n1_ := Aside0.mk (blk_drew BK557.out)
               have n2_ := Aside0.mk (blk_drew BK559.out)
               have n3_ := Aside0.mk (below_drew1 HB.out)
               clear HO565
               clear BK557
               clear BK559
               clear HB
               have HO565 := n0_
               have BK557 := n1_
               have BK559 := n2_
               have HB := n3_
               clear n0_ n1_ n2_ n3_
               obtain ⟨Ao31, co31, eo31⟩ := Kd.R_slice HO565.out
               (first | subst eo31 | (injection eo31 with f1_ f2_ f3_; have f4_ := f1_.symm; have f5_ := f3_.symm; clear f1_ f2_ f3_; subst f4_; subst f5_))
               have p568 : 0 ≤ ((ji18) : Int) := ofD
               have q568 : (ji18) < (l0_3.length : Int) := ofD
               obtain ⟨ad568, A568_1, c568_1, A568_2, c568_2, e568, hx568_0, hx568_1, hx568_2, hl568_1, hi568_1, hl568_2, hi568_2⟩ := at_T149 HR0_3.out (ji18) p568 q568
               have hw568_2 := hx568_2
               have hw568_1 := hx568_1
               have hw568_0 := hx568_0
               obtain rfl : ad558 = ad568 := (by injection e568)
               replace hx568_0 := (HB.out.cell (World.block_lt_of_cell? w _ hx568_0)).trans hx568_0
               replace hx568_1 := (HB.out.cell (World.block_lt_of_cell? w _ hx568_1)).trans hx568_1
               replace hx568_2 := (HB.out.cell (World.block_lt_of_cell? w _ hx568_2)).trans hx568_2
               have HR568_1 := Aside0.mk hi568_1
               have HC568_1 := Aside0.mk hl568_1
               clear hi568_1 hl568_1
               have HR568_2 := Aside0.mk hi568_2
               have HC568_2 := Aside0.mk hl568_2
               clear hi568_2 hl568_2
               replace p568 := eq_true p568
               replace q568 := eq_true q568
               refine start_ (n := 27) (S := fun w' => w'.cell? ⟨gb559, 0, none⟩ = some (.int .i64 ((rd_T149 l0_3 x9_1).f0)) ∧ w'.cell? ⟨gb559, 1, none⟩ = some (.slice A558_1 ((rd_T149 l0_3 x9_1).f1).length c558_1) ∧ w'.cell? ⟨gb559, 2, none⟩ = some (.slice A558_2 ((rd_T149 l0_3 x9_1).f2).length c558_2) ∧ w'.cell? ⟨gb557, 0, none⟩ = some (.slice (some ad562) l0_0.length c0_0) ∧ w'.cell? ⟨gb557, 1, none⟩ = some (.slice A0_1 l0_1.length c0_1) ∧ w'.cell? ⟨gb557, 2, none⟩ = some (.slice A0_2 l0_2.length c0_2) ∧ w'.cell? ⟨gb557, 3, none⟩ = some (.slice (some ad558) l0_3.length c0_3) ∧ w'.cell? ⟨gb557, 4, none⟩ = some (.slice A0_4 l0_4.length c0_4) ∧ w'.cell? (ad558.add (((ji18)).toNat * 3)) = some (.int .i64 ((rd_T149 l0_3 (ji18)).f0)) ∧ w'.cell? ⟨(ad558.add (((ji18)).toNat * 3)).block, (ad558.add (((ji18)).toNat * 3)).off + 1, none⟩ = some (.slice A568_1 ((rd_T149 l0_3 (ji18)).f1).length c568_1) ∧ w'.cell? ⟨(ad558.add (((ji18)).toNat * 3)).block, (ad558.add (((ji18)).toNat * 3)).off + 2, none⟩ = some (.slice A568_2 ((rd_T149 l0_3 (ji18)).f2).length c568_2)) (ds := []) #[false, false, false, false, false, false, false, false, false, false, false, false, false, false, false, false, false, false, false, false, false, false, false, false, false, false, false] (by kernel_rfl) rfl rfl ⟨(blk_cell BK559.out 0).trans rfl, (blk_cell BK559.out 1).trans rfl, (blk_cell BK559.out 2).trans rfl, (blk_cell BK557.out 0).trans rfl, (blk_cell BK557.out 1).trans rfl, (blk_cell BK557.out 2).trans rfl, (blk_cell BK557.out 3).trans rfl, (blk_cell BK557.out 4).trans rfl, ((HB.out.cell (World.block_lt_of_cell? w _ hw568_0)).trans hw568_0), ((HB.out.cell (World.block_lt_of_cell? w _ hw568_1)).trans hw568_1), ((HB.out.cell (World.block_lt_of_cell? w _ hw568_2)).trans hw568_2)⟩ (fun hHeld => ?_); refine with_tabW impl_goodJoints.tab7 impl_goodJoints.bits7 (fun HT_ HW_ => ?_)
               generalize w29.drew = w30 at HO565 BK557 BK559 HB HR568_1 HR568_2 hx568_0 hx568_1 hx568_2 hHeld ⊢
               refine pureS (i := 0) (N := some 31) (any_of HT_.out (by kernel_rfl)) ?_
               refine pureS (i := 1) (N := some 32) (any_of HT_.out (by kernel_rfl)) ?_
               refine takeS (i := 2) (N := some 33) (take_ofW HT_.out HW_.out (by kernel_rfl)) hHeld ?_
               refine one_ (i := 3) (N := some 34) #[true, true, true, true, false, false, false, false, false, false, false, false, false, false, false, false, false, false, false, false, false, false, false, false, false, false, false] rfl rfl (one_of HT_.out (by kernel_rfl)) (by decide) (fun K hK => ?_)
               refine goes_ Tryd.func82 (by kernel_rfl) rfl #[.slice Ao31 t563.length co31, .slice A558_1 ((rd_T149 l0_3 x9_1).f1).length c558_1] (by rfl) rfl rfl (by (try simp only [List.map_toArray, List.map_cons, List.map_nil]); first | done | rfl | (simp only [List.length_drop, List.length_take]; rfl)) ?_
               with_reducible refine (impl_isGlobal.calls k1 _ _ t563 _ _ ((rd_T149 l0_3 x9_1).f1) true _ ?side1 ?side2 ?side3 ?side4 A13.out).mono ?_
               (case side1 => exact cP ((Kd.R_reads' HO565.out).2.2))
               (case side2 => exact (Kd.R_reads' HO565.out).2.1)
               (case side3 => exact cP (Kd.C_below HR558_1.out HB.out))
               (case side4 => exact HC558_1.out)
               rintro e w' ⟨rfl, ⟨nd, rfl⟩⟩
               refine ⟨_, rfl, ?_⟩
               refine hK.out _ _ ⟨(blk_cell BK559.out 0).trans rfl, (blk_cell BK559.out 1).trans rfl, (blk_cell BK559.out 2).trans rfl, (blk_cell BK557.out 0).trans rfl, (blk_cell BK557.out 1).trans rfl, (blk_cell BK557.out 2).trans rfl, (blk_cell BK557.out 3).trans rfl, (blk_cell BK557.out 4).trans rfl, ((HB.out.cell (World.block_lt_of_cell? w _ hw568_0)).trans hw568_0), ((HB.out.cell (World.block_lt_of_cell? w _ hw568_1)).trans hw568_1), ((HB.out.cell (World.block_lt_of_cell? w _ hw568_2)).trans hw568_2)⟩ (fun hHeld => ?_)
               clear hK K
               refine norm_ (a' := ?_) ?_ ?_
               rotate_left
               ·show Act.put _ (some 34) _ = _
                simp only [Act.put, List.setIfInBounds_toArray, List.set_cons_zero, List.set_cons_succ, i64_w, i32_w]
                rfl
               refine pureS (i := 4) (N := some 35) (any_of HT_.out (by kernel_rfl)) ?_
               refine pureS (i := 5) (N := some 36) (any_of HT_.out (by kernel_rfl)) ?_
               refine pureS (i := 6) (N := some 37) (any_of HT_.out (by kernel_rfl)) ?_
               refine pureS (i := 7) (N := some 38) (any_of HT_.out (by kernel_rfl)) ?_
               refine takeS (i := 8) (N := some 39) (take_ofW HT_.out HW_.out (by kernel_rfl)) hHeld ?_
               refine one_ (i := 9) (N := some 40) #[true, true, true, true, true, true, true, true, true, true, false, false, false, false, false, false, false, false, false, false, false, false, false, false, false, false, false] rfl rfl (one_of HT_.out (by kernel_rfl)) (by decide) (fun K hK => ?_)
               refine goes_ Tryd.func82 (by kernel_rfl) rfl #[.slice Ao31 t563.length co31, .slice A558_2 ((rd_T149 l0_3 x9_1).f2).length c558_2] (by rfl) rfl rfl (by (try simp only [List.map_toArray, List.map_cons, List.map_nil]); first | done | rfl | (simp only [List.length_drop, List.length_take]; rfl)) ?_
               with_reducible refine (impl_isGlobal.calls k1 _ _ t563 _ _ ((rd_T149 l0_3 x9_1).f2) true _ ?side1 ?side2 ?side3 ?side4 A15.out).mono ?_
               (case side1 => exact cP ((Kd.R_reads' HO565.out).2.2))
               (case side2 => exact (Kd.R_reads' HO565.out).2.1)
               (case side3 => exact cP (Kd.C_below HR558_2.out (bW)))
               (case side4 => exact HC558_2.out)
               rintro e w' ⟨rfl, ⟨nd, rfl⟩⟩
               refine ⟨_, rfl, ?_⟩
               refine hK.out _ _ ⟨(blk_cell BK559.out 0).trans rfl, (blk_cell BK559.out 1).trans rfl, (blk_cell BK559.out 2).trans rfl, (blk_cell BK557.out 0).trans rfl, (blk_cell BK557.out 1).trans rfl, (blk_cell BK557.out 2).trans rfl, (blk_cell BK557.out 3).trans rfl, (blk_cell BK557.out 4).trans rfl, ((HB.out.cell (World.block_lt_of_cell? w _ hw568_0)).trans hw568_0), ((HB.out.cell (World.block_lt_of_cell? w _ hw568_1)).trans hw568_1), ((HB.out.cell (World.block_lt_of_cell? w _ hw568_2)).trans hw568_2)⟩ (fun hHeld => ?_)
               clear hK K
               refine norm_ (a' := ?_) ?_ ?_
               rotate_left
               ·show Act.put _ (some 40) _ = _
                simp only [Act.put, List.setIfInBounds_toArray, List.set_cons_zero, List.set_cons_succ, i64_w, i32_w]
                rfl
               refine pureS (i := 10) (N := some 41) (any_of HT_.out (by kernel_rfl)) ?_
               refine pureS (i := 11) (N := some 42) (any_of HT_.out (by kernel_rfl)) ?_
               refine pureS (i := 12) (N := some 43) (any_of HT_.out (by kernel_rfl)) ?_
               refine pureS (i := 13) (N := some 44) (any_of HT_.out (by kernel_rfl)) ?_
               refine pureS (i := 14) (N := some 45) (any_of HT_.out (by kernel_rfl)) ?_
               refine pureS (i := 15) (N := some 46) (any_of HT_.out (by kernel_rfl)) ?_
               refine pureS (i := 16) (N := some 47) (any_of HT_.out (by kernel_rfl)) ?_
               refine pureS (i := 18) (N := some 49) (any_of HT_.out (by kernel_rfl)) ?_
               refine pureS (i := 19) (N := some 50) (any_of HT_.out (by kernel_rfl)) ?_
               refine takeS (i := 17) (N := some 48) (take_ofW HT_.out HW_.out (by kernel_rfl)) hHeld ?_
               refine pureS (i := 20) (N := some 51) (any_of HT_.out (by kernel_rfl)) ?_
               refine takeS (i := 21) (N := some 52) (take_ofW HT_.out HW_.out (by kernel_rfl)) hHeld ?_
               refine takeS (i := 22) (N := some 53) (take_ofW HT_.out HW_.out (by kernel_rfl)) hHeld ?_
               refine one_ (i := 23) (N := some 54) #[true, true, true, true, true, true, true, true, true, true, true, true, true, true, true, true, true, true, true, true, true, true, true, true, false, false, false] rfl rfl (one_of HT_.out (by kernel_rfl)) (by decide) (fun K hK => ?_)
               refine goes_ Tryd.func133 (by kernel_rfl) rfl #[.agg #[.int .i64 ((rd_T149 l0_3 (ji18)).f0), .slice A568_1 ((rd_T149 l0_3 (ji18)).f1).length c568_1, .slice A568_2 ((rd_T149 l0_3 (ji18)).f2).length c568_2], .agg #[.int .i64 ((rd_T149 l0_3 x9_1).f0), .slice A558_1 ((rd_T149 l0_3 x9_1).f1).length c558_1, .slice A558_2 ((rd_T149 l0_3 x9_1).f2).length c558_2]] (by rfl) rfl rfl (by (try simp only [List.map_toArray, List.map_cons, List.map_nil]); first | done | (simp only [hji18]; rfl) | rfl | (simp only [List.length_drop, List.length_take]; rfl)) ?_
               with_reducible refine (impl_compareJoints.calls k1 ((rd_T149 l0_3 (ji18)).f0) _ _ ((rd_T149 l0_3 (ji18)).f1) _ _ ((rd_T149 l0_3 (ji18)).f2) ((rd_T149 l0_3 x9_1).f0) _ _ ((rd_T149 l0_3 x9_1).f1) _ _ ((rd_T149 l0_3 x9_1).f2) t569 _ ?side1 ?side2 ?side3 ?side4 ?side5 ?side6 ?side7 ?side8 A21.out).mono ?_
               (case side1 => exact cP (Kd.C_below HR568_1.out (bW)))
               (case side2 => exact HC568_1.out)
               (case side3 => exact cP (Kd.C_below HR568_2.out (bW)))
               (case side4 => exact HC568_2.out)
               (case side5 => exact cP (Kd.C_below HR558_1.out (bW)))
               (case side6 => exact HC558_1.out)
               (case side7 => exact cP (Kd.C_below HR558_2.out (bW)))
               (case side8 => exact HC558_2.out)
               rintro e w32 ⟨rfl, hb⟩
               refine ⟨_, rfl, ?_⟩
               have n0_ := Aside0.mk (Kd.R_below (rP HO565.out) hb)
               have n1_ := Aside0.mk (blkB BK557.out hb)
               have n2_ := Aside0.mk (blkB BK559.out hb)
               have n3_ := Aside0.mk (below_step (bW) hb)
               clear HO565
               clear BK557
               clear BK559
               clear HB
               have HO565 := n0_
               have BK557 := n1_
               have BK559 := n2_
               have HB := n3_
               clear n0_ n1_ n2_ n3_
               (try clear hb)
               (try clear hb2)
               (try clear hk)
               (try clear hi)
               refine hK.out _ _ ⟨(blk_cell BK559.out 0).trans rfl, (blk_cell BK559.out 1).trans rfl, (blk_cell BK559.out 2).trans rfl, (blk_cell BK557.out 0).trans rfl, (blk_cell BK557.out 1).trans rfl, (blk_cell BK557.out 2).trans rfl, (blk_cell BK557.out 3).trans rfl, (blk_cell BK557.out 4).trans rfl, ((HB.out.cell (World.block_lt_of_cell? w _ hw568_0)).trans hw568_0), ((HB.out.cell (World.block_lt_of_cell? w _ hw568_1)).trans hw568_1), ((HB.out.cell (World.block_lt_of_cell? w _ hw568_2)).trans hw568_2)⟩ (fun hHeld => ?_)
               clear hK K
               refine norm_ (a' := ?_) ?_ ?_
               rotate_left
               ·show Act.put _ (some 54) _ = _
                simp only [Act.put, List.setIfInBounds_toArray, List.set_cons_zero, List.set_cons_succ, i64_w, i32_w]
                rfl
               refine pureS (i := 24) (N := some 55) (any_of HT_.out (by kernel_rfl)) ?_
               refine pureS (i := 25) (N := some 56) (any_of HT_.out (by kernel_rfl)) ?_
               refine pureS (i := 26) (N := some 57) (any_of HT_.out (by kernel_rfl)) ?_
               refine done_ (done_of HT_.out (by kernel_rfl)) ?_
               try go_wp2
               go_ret
               exact ⟨by first | rfl | (simp [errW_none, errW_some] <;> rfl) | (simp only [← hji18]; first | rfl | (simp [errW_none, errW_some] <;> rfl)) | (simp [*, errW_none, errW_some] <;> rfl), bW⟩
              ·rw [if_neg c22] at H
               have c22b0 : decide (0 ≤ t569) = false := decide_eq_false c22
               clear c22
               have H' := Aside0.mk H
               clear H
               have p558 : 0 ≤ (x9_1 : Int) := ofD
               have q558 : x9_1 < (l0_3.length : Int) := ofD
               obtain ⟨ad558, A558_1, c558_1, A558_2, c558_2, e558, hx558_0, hx558_1, hx558_2, hl558_1, hi558_1, hl558_2, hi558_2⟩ := at_T149 HR0_3.out x9_1 p558 q558
               cases e558
               replace hx558_0 := (HB.out.cell (World.block_lt_of_cell? w _ hx558_0)).trans hx558_0
               replace hx558_1 := (HB.out.cell (World.block_lt_of_cell? w _ hx558_1)).trans hx558_1
               replace hx558_2 := (HB.out.cell (World.block_lt_of_cell? w _ hx558_2)).trans hx558_2
               have HR558_1 := Aside0.mk hi558_1
               have HC558_1 := Aside0.mk hl558_1
               clear hi558_1 hl558_1
               have HR558_2 := Aside0.mk hi558_2
               have HC558_2 := Aside0.mk hl558_2
               clear hi558_2 hl558_2
               replace p558 := eq_true p558
               replace q558 := eq_true q558
               try go_wp2_with (first | ((with_reducible refine gate_dst (N := 4) rfl ?_); refine boxS (N := 4) (cs := #[.int .i64 0, .slice none 0 0, .slice none 0 0]) (t := 149) ?_; intro gb559 hg w33 hbox hb; have n0_ := Aside0.mk (blkB BK557.out hb); have n1_ := Aside0.mk (below_step (bW) hb); have n2_ := Aside0.mk (hbox); have n3_ := geW (w := w) hg; have n4_ := geW (w := w) hg; have n5_ := Aside0.mk ((by rw [hg]; exact Nat.ne_of_lt (blk_lt (g := gb557) (o := .cells #[.slice A0_0 l0_0.length c0_0, .slice A0_1 l0_1.length c0_1, .slice A0_2 l0_2.length c0_2, .slice (some ad558) l0_3.length c0_3, .slice A0_4 l0_4.length c0_4] 65 (0, 0)) (bP BK557.out)) : gb557 ≠ gb559)); have n6_ := Aside0.mk ((by rw [hg]; exact Nat.ne_of_gt (blk_lt (g := gb557) (o := .cells #[.slice A0_0 l0_0.length c0_0, .slice A0_1 l0_1.length c0_1, .slice A0_2 l0_2.length c0_2, .slice (some ad558) l0_3.length c0_3, .slice A0_4 l0_4.length c0_4] 65 (0, 0)) (bP BK557.out)) : gb559 ≠ gb557)); clear BK557; clear HB; have BK557 := n0_; have HB := n1_; have BK559 := n2_; have GW559 := n3_; have GE559 := n4_; have NB557_559 := n5_; have NB559_557 := n6_; clear n0_ n1_ n2_ n3_ n4_ n5_ n6_; clear hb hbox hg; have hnb34 := NB559_557.out; have hnc34 := NB557_559.out; obtain ⟨hcz35_0, hcz35_1, hcz35_2⟩ := cells3 BK559.out; obtain ⟨hfz35_0, hfz35_1, hfz35_2⟩ := frz3 BK559.out))
               have n0_ : Aside0 ((((w33.setCell ⟨gb559, 0, none⟩ (.int .i64 ((rd_T149 l0_3 x9_1).f0))).setCell ⟨gb559, 1, none⟩ (.slice A558_1 ((rd_T149 l0_3 x9_1).f1).length c558_1)).setCell ⟨gb559, 2, none⟩ (.slice A558_2 ((rd_T149 l0_3 x9_1).f2).length c558_2)).heap[gb557]? = some (.cells #[.slice A0_0 l0_0.length c0_0, .slice A0_1 l0_1.length c0_1, .slice A0_2 l0_2.length c0_2, .slice (some ad558) l0_3.length c0_3, .slice A0_4 l0_4.length c0_4] 65 (0, 0))) := ⟨by (with_reducible repeat (first | refine blk_drewN ?_ _ | refine blk_drew ?_ | refine blk_alloc ?_ _)); refine blk_far ?_ NB557_559.out _; (with_reducible repeat (first | refine blk_drewN ?_ _ | refine blk_drew ?_ | refine blk_alloc ?_ _)); refine blk_far ?_ NB557_559.out _; (with_reducible repeat (first | refine blk_drewN ?_ _ | refine blk_drew ?_ | refine blk_alloc ?_ _)); refine blk_far ?_ NB557_559.out _; exact bP BK557.out⟩
               have n1_ : Aside0 ((((w33.setCell ⟨gb559, 0, none⟩ (.int .i64 ((rd_T149 l0_3 x9_1).f0))).setCell ⟨gb559, 1, none⟩ (.slice A558_1 ((rd_T149 l0_3 x9_1).f1).length c558_1)).setCell ⟨gb559, 2, none⟩ (.slice A558_2 ((rd_T149 l0_3 x9_1).f2).length c558_2)).heap[gb559]? = some (.cells #[.int .i64 ((rd_T149 l0_3 x9_1).f0), .slice A558_1 ((rd_T149 l0_3 x9_1).f1).length c558_1, .slice A558_2 ((rd_T149 l0_3 x9_1).f2).length c558_2] 149 (0, 0))) := ⟨by (with_reducible repeat (first | refine blk_drewN ?_ _ | refine blk_drew ?_ | refine blk_alloc ?_ _)); refine blk_put (cs := #[.int .i64 ((rd_T149 l0_3 x9_1).f0), .slice A558_1 ((rd_T149 l0_3 x9_1).f1).length c558_1, .slice none 0 0]) ?_ 2 _ rfl; (with_reducible repeat (first | refine blk_drewN ?_ _ | refine blk_drew ?_ | refine blk_alloc ?_ _)); refine blk_put (cs := #[.int .i64 ((rd_T149 l0_3 x9_1).f0), .slice none 0 0, .slice none 0 0]) ?_ 1 _ rfl; (with_reducible repeat (first | refine blk_drewN ?_ _ | refine blk_drew ?_ | refine blk_alloc ?_ _)); refine blk_put (cs := #[.int .i64 0, .slice none 0 0, .slice none 0 0]) ?_ 0 _ rfl; exact bP BK559.out⟩
               have n2_ : Aside0 (Below w.heap.size w (((w33.setCell ⟨gb559, 0, none⟩ (.int .i64 ((rd_T149 l0_3 x9_1).f0))).setCell ⟨gb559, 1, none⟩ (.slice A558_1 ((rd_T149 l0_3 x9_1).f1).length c558_1)).setCell ⟨gb559, 2, none⟩ (.slice A558_2 ((rd_T149 l0_3 x9_1).f2).length c558_2))) := ⟨bW⟩
               (try clear BK557)
               (try clear BK559)
               (try clear HB)
               generalize (((w33.setCell ⟨gb559, 0, none⟩ (.int .i64 ((rd_T149 l0_3 x9_1).f0))).setCell ⟨gb559, 1, none⟩ (.slice A558_1 ((rd_T149 l0_3 x9_1).f1).length c558_1)).setCell ⟨gb559, 2, none⟩ (.slice A558_2 ((rd_T149 l0_3 x9_1).f2).length c558_2)) = w36 at n0_ n1_ n2_ ⊢
               have BK557 := n0_
               have BK559 := n1_
               have HB := n2_
               clear n0_ n1_ n2_
               have n0_ := Aside0.mk (blk_drew BK557.out)
               have n1_ := Aside0.mk (blk_drew BK559.out)
               have n2_ := Aside0.mk (below_drew1 HB.out)
               clear BK557
               clear BK559
               clear HB
               have BK557 := n0_
               have BK559 := n1_
               have HB := n2_
               clear n0_ n1_ n2_
               refine start_ (n := 8) (S := fun w' => w'.cell? ⟨gb559, 0, none⟩ = some (.int .i64 ((rd_T149 l0_3 x9_1).f0)) ∧ w'.cell? ⟨gb559, 1, none⟩ = some (.slice A558_1 ((rd_T149 l0_3 x9_1).f1).length c558_1) ∧ w'.cell? ⟨gb559, 2, none⟩ = some (.slice A558_2 ((rd_T149 l0_3 x9_1).f2).length c558_2) ∧ w'.cell? ⟨gb557, 0, none⟩ = some (.slice A0_0 l0_0.length c0_0) ∧ w'.cell? ⟨gb557, 1, none⟩ = some (.slice A0_1 l0_1.length c0_1) ∧ w'.cell? ⟨gb557, 2, none⟩ = some (.slice A0_2 l0_2.length c0_2) ∧ w'.cell? ⟨gb557, 3, none⟩ = some (.slice (some ad558) l0_3.length c0_3) ∧ w'.cell? ⟨gb557, 4, none⟩ = some (.slice A0_4 l0_4.length c0_4)) (ds := []) #[false, false, false, false, false, false, false, false] (by kernel_rfl) rfl rfl ⟨(blk_cell BK559.out 0).trans rfl, (blk_cell BK559.out 1).trans rfl, (blk_cell BK559.out 2).trans rfl, (blk_cell BK557.out 0).trans rfl, (blk_cell BK557.out 1).trans rfl, (blk_cell BK557.out 2).trans rfl, (blk_cell BK557.out 3).trans rfl, (blk_cell BK557.out 4).trans rfl⟩ (fun hHeld => ?_); refine with_tabW impl_goodJoints.tab4 impl_goodJoints.bits4 (fun HT_ HW_ => ?_)
               generalize w36.drew = w37 at BK557 BK559 HB hHeld ⊢
               refine pureS (i := 0) (N := some 14) (any_of HT_.out (by kernel_rfl)) ?_
               refine pureS (i := 2) (N := some 16) (any_of HT_.out (by kernel_rfl)) ?_
               refine takeS (i := 1) (N := some 15) (take_ofW HT_.out HW_.out (by kernel_rfl)) hHeld ?_
               refine takeS (i := 3) (N := some 17) (take_ofW HT_.out HW_.out (by kernel_rfl)) hHeld ?_
               refine one_ (i := 4) (N := some 18) #[true, true, true, true, true, false, false, false] rfl rfl (one_of HT_.out (by kernel_rfl)) (by decide) (fun K hK => ?_)
               refine goes_ Tryd.func80 (by kernel_rfl) rfl #[.slice A0_0 l0_0.length c0_0] (by rfl) rfl rfl (by (try simp only [List.map_toArray, List.map_cons, List.map_nil]); first | done | rfl | (simp only [List.length_drop, List.length_take]; rfl)) ?_
               with_reducible refine (impl_length_int64_80.calls _ _ l0_0 t560 _ ?side1 ?side2 A7.out).mono ?_
               (case side1 => exact cP (Kd.C_below HR0_0.out HB.out))
               (case side2 => exact HC0_0.out)
               rintro e w' ⟨rfl, ⟨nd, rfl⟩⟩
               refine ⟨_, rfl, ?_⟩
               refine hK.out _ _ ⟨(blk_cell BK559.out 0).trans rfl, (blk_cell BK559.out 1).trans rfl, (blk_cell BK559.out 2).trans rfl, (blk_cell BK557.out 0).trans rfl, (blk_cell BK557.out 1).trans rfl, (blk_cell BK557.out 2).trans rfl, (blk_cell BK557.out 3).trans rfl, (blk_cell BK557.out 4).trans rfl⟩ (fun hHeld => ?_)
               clear hK K
               refine norm_ (a' := ?_) ?_ ?_
               rotate_left
               ·show Act.put _ (some 18) _ = _
                simp only [Act.put, List.setIfInBounds_toArray, List.set_cons_zero, List.set_cons_succ, i64_w, i32_w]
                rfl
               refine pureS (i := 5) (N := some 19) (any_of HT_.out (by kernel_rfl)) ?_
               refine one_ (i := 6) (N := some 20) #[true, true, true, true, true, true, true, false] rfl rfl (one_of HT_.out (by kernel_rfl)) (by decide) (fun K hK => ?_)
               refine goes_ Tryd.func109 (by kernel_rfl) rfl #[.int .i64 ((rd_T149 l0_3 x9_1).f0), .int .i64 0, .int .i64 (wrap64 (t560 - 1))] (by rfl) rfl rfl (by (try simp only [List.map_toArray, List.map_cons, List.map_nil]); first | done | rfl | (simp only [List.length_drop, List.length_take]; rfl)) ?_
               with_reducible refine (impl_inRange.calls ((rd_T149 l0_3 x9_1).f0) 0 (wrap64 (t560 - 1)) true _ A8.out).mono ?_
               rintro e w' ⟨rfl, ⟨nd, rfl⟩⟩
               refine ⟨_, rfl, ?_⟩
               refine hK.out _ _ ⟨(blk_cell BK559.out 0).trans rfl, (blk_cell BK559.out 1).trans rfl, (blk_cell BK559.out 2).trans rfl, (blk_cell BK557.out 0).trans rfl, (blk_cell BK557.out 1).trans rfl, (blk_cell BK557.out 2).trans rfl, (blk_cell BK557.out 3).trans rfl, (blk_cell BK557.out 4).trans rfl⟩ (fun hHeld => ?_)
               clear hK K
               refine norm_ (a' := ?_) ?_ ?_
               rotate_left
               ·show Act.put _ (some 20) _ = _
                simp only [Act.put, List.setIfInBounds_toArray, List.set_cons_zero, List.set_cons_succ, i64_w, i32_w]
                rfl
               refine pureS (i := 7) (N := some 21) (any_of HT_.out (by kernel_rfl)) ?_
               refine done_ (done_of HT_.out (by kernel_rfl)) ?_
               try go_wp2
               (try ((repeat rw [World.drewN_drewN w37]); (first | generalize hq_ : World.drewN w37 _ = w37 | (rw [drewN_self w37]; generalize hq_ : World.drewN w37 _ = w37)); have n0_ : Aside0 (w37.heap[gb557]? = some (.cells #[.slice A0_0 l0_0.length c0_0, .slice A0_1 l0_1.length c0_1, .slice A0_2 l0_2.length c0_2, .slice (some ad558) l0_3.length c0_3, .slice A0_4 l0_4.length c0_4] 65 (0, 0))) := ⟨by rw [← hq_]; exact (bP BK557.out)⟩; have n1_ : Aside0 (w37.heap[gb559]? = some (.cells #[.int .i64 ((rd_T149 l0_3 x9_1).f0), .slice A558_1 ((rd_T149 l0_3 x9_1).f1).length c558_1, .slice A558_2 ((rd_T149 l0_3 x9_1).f2).length c558_2] 149 (0, 0))) := ⟨by rw [← hq_]; exact (bP BK559.out)⟩; have n2_ : Aside0 (Below w.heap.size w w37) := ⟨by rw [← hq_]; exact (bW)⟩; clear BK557 BK559 HB hq_; have BK557 := n0_; have BK559 := n1_; have HB := n2_; clear n0_ n1_ n2_))
               have n0_ := Aside0.mk (blk_drew BK557.out)
               have n1_ := Aside0.mk (blk_drew BK559.out)
               have n2_ := Aside0.mk (below_drew1 HB.out)
               clear BK557
               clear BK559
               clear HB
               have BK557 := n0_
               have BK559 := n1_
               have HB := n2_
               clear n0_ n1_ n2_
               have p562 : 0 ≤ (((rd_T149 l0_3 x9_1).f0) : Int) := ofD
               have q562 : ((rd_T149 l0_3 x9_1).f0) < (l0_0.length : Int) := ofD
               obtain ⟨ad562, e562, hx562_0⟩ := Kd.at_int HR0_0.out ((rd_T149 l0_3 x9_1).f0) p562 q562
               have hw562_0 := hx562_0
               cases e562
               replace hx562_0 := (HB.out.cell (World.block_lt_of_cell? w _ hx562_0)).trans hx562_0
               replace p562 := eq_true p562
               replace q562 := eq_true q562
               refine start_ (n := 10) (S := fun w' => w'.cell? ⟨gb557, 0, none⟩ = some (.slice (some ad562) l0_0.length c0_0) ∧ w'.cell? ⟨gb557, 1, none⟩ = some (.slice A0_1 l0_1.length c0_1) ∧ w'.cell? ⟨gb557, 2, none⟩ = some (.slice A0_2 l0_2.length c0_2) ∧ w'.cell? ⟨gb557, 3, none⟩ = some (.slice (some ad558) l0_3.length c0_3) ∧ w'.cell? ⟨gb557, 4, none⟩ = some (.slice A0_4 l0_4.length c0_4) ∧ w'.cell? ⟨gb559, 0, none⟩ = some (.int .i64 ((rd_T149 l0_3 x9_1).f0)) ∧ w'.cell? ⟨gb559, 1, none⟩ = some (.slice A558_1 ((rd_T149 l0_3 x9_1).f1).length c558_1) ∧ w'.cell? ⟨gb559, 2, none⟩ = some (.slice A558_2 ((rd_T149 l0_3 x9_1).f2).length c558_2) ∧ w'.cell? (ad562.add (((rd_T149 l0_3 x9_1).f0)).toNat) = some (.int .i64 (rd l0_0 ((rd_T149 l0_3 x9_1).f0)))) (ds := []) #[false, false, false, false, false, false, false, false, false, false] (by kernel_rfl) rfl rfl ⟨(blk_cell BK557.out 0).trans rfl, (blk_cell BK557.out 1).trans rfl, (blk_cell BK557.out 2).trans rfl, (blk_cell BK557.out 3).trans rfl, (blk_cell BK557.out 4).trans rfl, (blk_cell BK559.out 0).trans rfl, (blk_cell BK559.out 1).trans rfl, (blk_cell BK559.out 2).trans rfl, ((HB.out.cell (World.block_lt_of_cell? w _ hw562_0)).trans hw562_0)⟩ (fun hHeld => ?_); refine with_tabW impl_goodJoints.tab6 impl_goodJoints.bits6 (fun HT_ HW_ => ?_)
               generalize w37.drew = w38 at BK557 BK559 HB hx562_0 hHeld ⊢
               refine pureS (i := 0) (N := some 22) (any_of HT_.out (by kernel_rfl)) ?_
               refine pureS (i := 2) (N := some 24) (any_of HT_.out (by kernel_rfl)) ?_
               refine pureS (i := 4) (N := some 26) (any_of HT_.out (by kernel_rfl)) ?_
               refine takeS (i := 1) (N := some 23) (take_ofW HT_.out HW_.out (by kernel_rfl)) hHeld ?_
               refine takeS (i := 3) (N := some 25) (take_ofW HT_.out HW_.out (by kernel_rfl)) hHeld ?_
               refine takeS (i := 5) (N := some 27) (take_ofW HT_.out HW_.out (by kernel_rfl)) hHeld ?_
               refine pureS (i := 6) (N := some 28) (any_of HT_.out (by kernel_rfl)) ?_
               refine takeS (i := 7) (N := some 29) (take_ofW HT_.out HW_.out (by kernel_rfl)) hHeld ?_
               refine one_ (i := 8) (N := some 30) #[true, true, true, true, true, true, true, true, true, false] rfl rfl (one_of HT_.out (by kernel_rfl)) (by decide) (fun K hK => ?_)
               refine goes_ Tryd.func132 (by kernel_rfl) rfl #[.slice A0_1 l0_1.length c0_1, .int .i64 (rd l0_0 ((rd_T149 l0_3 x9_1).f0))] (by rfl) rfl rfl (by (try simp only [List.map_toArray, List.map_cons, List.map_nil]); first | done | rfl | (simp only [List.length_drop, List.length_take]; rfl)) ?_
               with_reducible refine (impl_locals.calls k1 _ _ l0_1 (rd l0_0 ((rd_T149 l0_3 x9_1).f0)) t563 _ ?side1 ?side2 A12.out (tabW HTab.out)).mono ?_
               (case side1 => exact cP (Kd.C_below HR0_1.out HB.out))
               (case side2 => exact HC0_1.out)
               rintro e w39 ⟨v564, rfl, ho0, hb⟩
               refine ⟨_, rfl, ?_⟩
               have n0_ := Aside0.mk (Kd.R_lower ho0 (below_size (bW)))
               have n1_ := Aside0.mk (blkB BK557.out hb)
               have n2_ := Aside0.mk (blkB BK559.out hb)
               have n3_ := Aside0.mk (below_step (bW) hb)
               clear BK557
               clear BK559
               clear HB
               have HO565 := n0_
               have BK557 := n1_
               have BK559 := n2_
               have HB := n3_
               clear n0_ n1_ n2_ n3_
               (try clear hb)
               (try clear hb2)
               (try clear hk)
               (try clear hi)
               (try clear ho0)
               refine hK.out _ _ ⟨(blk_cell BK557.out 0).trans rfl, (blk_cell BK557.out 1).trans rfl, (blk_cell BK557.out 2).trans rfl, (blk_cell BK557.out 3).trans rfl, (blk_cell BK557.out 4).trans rfl, (blk_cell BK559.out 0).trans rfl, (blk_cell BK559.out 1).trans rfl, (blk_cell BK559.out 2).trans rfl, ((HB.out.cell (World.block_lt_of_cell? w _ hw562_0)).trans hw562_0)⟩ (fun hHeld => ?_)
               clear hK K
               refine norm_ (a' := ?_) ?_ ?_
               rotate_left
               ·show Act.put _ (some 30) _ = _
                simp only [Act.put, List.setIfInBounds_toArray, List.set_cons_zero, List.set_cons_succ, i64_w, i32_w]
                rfl
               refine pureS (i := 9) (N := some 5) (any_of HT_.out (by kernel_rfl)) ?_
               refine done_ (done_of HT_.out (by kernel_rfl)) ?_
               try go_wp2
               have n0_ := Aside0.mk (Kd.R_drew HO565.out)
               have n1_ := Aside0.mk (blk_drew BK557.out)
               have n2_ := Aside0.mk (blk_drew BK559.out)
               have n3_ := Aside0.mk (below_drew1 HB.out)
               clear HO565
               clear BK557
               clear BK559
               clear HB
               have HO565 := n0_
               have BK557 := n1_
               have BK559 := n2_
               have HB := n3_
               clear n0_ n1_ n2_ n3_
               obtain ⟨Ao41, co41, eo41⟩ := Kd.R_slice HO565.out
               (first | subst eo41 | (injection eo41 with f1_ f2_ f3_; have f4_ := f1_.symm; have f5_ := f3_.symm; clear f1_ f2_ f3_; subst f4_; subst f5_))
               have p568 : 0 ≤ ((ji18) : Int) := ofD
               have q568 : (ji18) < (l0_3.length : Int) := ofD
               obtain ⟨ad568, A568_1, c568_1, A568_2, c568_2, e568, hx568_0, hx568_1, hx568_2, hl568_1, hi568_1, hl568_2, hi568_2⟩ := at_T149 HR0_3.out (ji18) p568 q568
               have hw568_2 := hx568_2
               have hw568_1 := hx568_1
               have hw568_0 := hx568_0
               obtain rfl : ad558 = ad568 := (by injection e568)
               replace hx568_0 := (HB.out.cell (World.block_lt_of_cell? w _ hx568_0)).trans hx568_0
               replace hx568_1 := (HB.out.cell (World.block_lt_of_cell? w _ hx568_1)).trans hx568_1
               replace hx568_2 := (HB.out.cell (World.block_lt_of_cell? w _ hx568_2)).trans hx568_2
               have HR568_1 := Aside0.mk hi568_1
               have HC568_1 := Aside0.mk hl568_1
               clear hi568_1 hl568_1
               have HR568_2 := Aside0.mk hi568_2
               have HC568_2 := Aside0.mk hl568_2
               clear hi568_2 hl568_2
               replace p568 := eq_true p568
               replace q568 := eq_true q568
               refine start_ (n := 27) (S := fun w' => w'.cell? ⟨gb559, 0, none⟩ = some (.int .i64 ((rd_T149 l0_3 x9_1).f0)) ∧ w'.cell? ⟨gb559, 1, none⟩ = some (.slice A558_1 ((rd_T149 l0_3 x9_1).f1).length c558_1) ∧ w'.cell? ⟨gb559, 2, none⟩ = some (.slice A558_2 ((rd_T149 l0_3 x9_1).f2).length c558_2) ∧ w'.cell? ⟨gb557, 0, none⟩ = some (.slice (some ad562) l0_0.length c0_0) ∧ w'.cell? ⟨gb557, 1, none⟩ = some (.slice A0_1 l0_1.length c0_1) ∧ w'.cell? ⟨gb557, 2, none⟩ = some (.slice A0_2 l0_2.length c0_2) ∧ w'.cell? ⟨gb557, 3, none⟩ = some (.slice (some ad558) l0_3.length c0_3) ∧ w'.cell? ⟨gb557, 4, none⟩ = some (.slice A0_4 l0_4.length c0_4) ∧ w'.cell? (ad558.add (((ji18)).toNat * 3)) = some (.int .i64 ((rd_T149 l0_3 (ji18)).f0)) ∧ w'.cell? ⟨(ad558.add (((ji18)).toNat * 3)).block, (ad558.add (((ji18)).toNat * 3)).off + 1, none⟩ = some (.slice A568_1 ((rd_T149 l0_3 (ji18)).f1).length c568_1) ∧ w'.cell? ⟨(ad558.add (((ji18)).toNat * 3)).block, (ad558.add (((ji18)).toNat * 3)).off + 2, none⟩ = some (.slice A568_2 ((rd_T149 l0_3 (ji18)).f2).length c568_2)) (ds := []) #[false, false, false, false, false, false, false, false, false, false, false, false, false, false, false, false, false, false, false, false, false, false, false, false, false, false, false] (by kernel_rfl) rfl rfl ⟨(blk_cell BK559.out 0).trans rfl, (blk_cell BK559.out 1).trans rfl, (blk_cell BK559.out 2).trans rfl, (blk_cell BK557.out 0).trans rfl, (blk_cell BK557.out 1).trans rfl, (blk_cell BK557.out 2).trans rfl, (blk_cell BK557.out 3).trans rfl, (blk_cell BK557.out 4).trans rfl, ((HB.out.cell (World.block_lt_of_cell? w _ hw568_0)).trans hw568_0), ((HB.out.cell (World.block_lt_of_cell? w _ hw568_1)).trans hw568_1), ((HB.out.cell (World.block_lt_of_cell? w _ hw568_2)).trans hw568_2)⟩ (fun hHeld => ?_); refine with_tabW impl_goodJoints.tab7 impl_goodJoints.bits7 (fun HT_ HW_ => ?_)
               generalize w39.drew = w40 at HO565 BK557 BK559 HB HR568_1 HR568_2 hx568_0 hx568_1 hx568_2 hHeld ⊢
               refine pureS (i := 0) (N := some 31) (any_of HT_.out (by kernel_rfl)) ?_
               refine pureS (i := 1) (N := some 32) (any_of HT_.out (by kernel_rfl)) ?_
               refine takeS (i := 2) (N := some 33) (take_ofW HT_.out HW_.out (by kernel_rfl)) hHeld ?_
               refine one_ (i := 3) (N := some 34) #[true, true, true, true, false, false, false, false, false, false, false, false, false, false, false, false, false, false, false, false, false, false, false, false, false, false, false] rfl rfl (one_of HT_.out (by kernel_rfl)) (by decide) (fun K hK => ?_)
               refine goes_ Tryd.func82 (by kernel_rfl) rfl #[.slice Ao41 t563.length co41, .slice A558_1 ((rd_T149 l0_3 x9_1).f1).length c558_1] (by rfl) rfl rfl (by (try simp only [List.map_toArray, List.map_cons, List.map_nil]); first | done | rfl | (simp only [List.length_drop, List.length_take]; rfl)) ?_
               with_reducible refine (impl_isGlobal.calls k1 _ _ t563 _ _ ((rd_T149 l0_3 x9_1).f1) true _ ?side1 ?side2 ?side3 ?side4 A13.out).mono ?_
               (case side1 => exact cP ((Kd.R_reads' HO565.out).2.2))
               (case side2 => exact (Kd.R_reads' HO565.out).2.1)
               (case side3 => exact cP (Kd.C_below HR558_1.out HB.out))
               (case side4 => exact HC558_1.out)
               rintro e w' ⟨rfl, ⟨nd, rfl⟩⟩
               refine ⟨_, rfl, ?_⟩
               refine hK.out _ _ ⟨(blk_cell BK559.out 0).trans rfl, (blk_cell BK559.out 1).trans rfl, (blk_cell BK559.out 2).trans rfl, (blk_cell BK557.out 0).trans rfl, (blk_cell BK557.out 1).trans rfl, (blk_cell BK557.out 2).trans rfl, (blk_cell BK557.out 3).trans rfl, (blk_cell BK557.out 4).trans rfl, ((HB.out.cell (World.block_lt_of_cell? w _ hw568_0)).trans hw568_0), ((HB.out.cell (World.block_lt_of_cell? w _ hw568_1)).trans hw568_1), ((HB.out.cell (World.block_lt_of_cell? w _ hw568_2)).trans hw568_2)⟩ (fun hHeld => ?_)
               clear hK K
               refine norm_ (a' := ?_) ?_ ?_
               rotate_left
               ·show Act.put _ (some 34) _ = _
                simp only [Act.put, List.setIfInBounds_toArray, List.set_cons_zero, List.set_cons_succ, i64_w, i32_w]
                rfl
               refine pureS (i := 4) (N := some 35) (any_of HT_.out (by kernel_rfl)) ?_
               refine pureS (i := 5) (N := some 36) (any_of HT_.out (by kernel_rfl)) ?_
               refine pureS (i := 6) (N := some 37) (any_of HT_.out (by kernel_rfl)) ?_
               refine pureS (i := 7) (N := some 38) (any_of HT_.out (by kernel_rfl)) ?_
               refine takeS (i := 8) (N := some 39) (take_ofW HT_.out HW_.out (by kernel_rfl)) hHeld ?_
               refine one_ (i := 9) (N := some 40) #[true, true, true, true, true, true, true, true, true, true, false, false, false, false, false, false, false, false, false, false, false, false, false, false, false, false, false] rfl rfl (one_of HT_.out (by kernel_rfl)) (by decide) (fun K hK => ?_)
               refine goes_ Tryd.func82 (by kernel_rfl) rfl #[.slice Ao41 t563.length co41, .slice A558_2 ((rd_T149 l0_3 x9_1).f2).length c558_2] (by rfl) rfl rfl (by (try simp only [List.map_toArray, List.map_cons, List.map_nil]); first | done | rfl | (simp only [List.length_drop, List.length_take]; rfl)) ?_
               with_reducible refine (impl_isGlobal.calls k1 _ _ t563 _ _ ((rd_T149 l0_3 x9_1).f2) true _ ?side1 ?side2 ?side3 ?side4 A15.out).mono ?_
               (case side1 => exact cP ((Kd.R_reads' HO565.out).2.2))
               (case side2 => exact (Kd.R_reads' HO565.out).2.1)
               (case side3 => exact cP (Kd.C_below HR558_2.out (bW)))
               (case side4 => exact HC558_2.out)
               rintro e w' ⟨rfl, ⟨nd, rfl⟩⟩
               refine ⟨_, rfl, ?_⟩
               refine hK.out _ _ ⟨(blk_cell BK559.out 0).trans rfl, (blk_cell BK559.out 1).trans rfl, (blk_cell BK559.out 2).trans rfl, (blk_cell BK557.out 0).trans rfl, (blk_cell BK557.out 1).trans rfl, (blk_cell BK557.out 2).trans rfl, (blk_cell BK557.out 3).trans rfl, (blk_cell BK557.out 4).trans rfl, ((HB.out.cell (World.block_lt_of_cell? w _ hw568_0)).trans hw568_0), ((HB.out.cell (World.block_lt_of_cell? w _ hw568_1)).trans hw568_1), ((HB.out.cell (World.block_lt_of_cell? w _ hw568_2)).trans hw568_2)⟩ (fun hHeld => ?_)
               clear hK K
               refine norm_ (a' := ?_) ?_ ?_
               rotate_left
               ·show Act.put _ (some 40) _ = _
                simp only [Act.put, List.setIfInBounds_toArray, List.set_cons_zero, List.set_cons_succ, i64_w, i32_w]
                rfl
               refine pureS (i := 10) (N := some 41) (any_of HT_.out (by kernel_rfl)) ?_
               refine pureS (i := 11) (N := some 42) (any_of HT_.out (by kernel_rfl)) ?_
               refine pureS (i := 12) (N := some 43) (any_of HT_.out (by kernel_rfl)) ?_
               refine pureS (i := 13) (N := some 44) (any_of HT_.out (by kernel_rfl)) ?_
               refine pureS (i := 14) (N := some 45) (any_of HT_.out (by kernel_rfl)) ?_
               refine pureS (i := 15) (N := some 46) (any_of HT_.out (by kernel_rfl)) ?_
               refine pureS (i := 16) (N := some 47) (any_of HT_.out (by kernel_rfl)) ?_
               refine pureS (i := 18) (N := some 49) (any_of HT_.out (by kernel_rfl)) ?_
               refine pureS (i := 19) (N := some 50) (any_of HT_.out (by kernel_rfl)) ?_
               refine takeS (i := 17) (N := some 48) (take_ofW HT_.out HW_.out (by kernel_rfl)) hHeld ?_
               refine pureS (i := 20) (N := some 51) (any_of HT_.out (by kernel_rfl)) ?_
               refine takeS (i := 21) (N := some 52) (take_ofW HT_.out HW_.out (by kernel_rfl)) hHeld ?_
               refine takeS (i := 22) (N := some 53) (take_ofW HT_.out HW_.out (by kernel_rfl)) hHeld ?_
               refine one_ (i := 23) (N := some 54) #[true, true, true, true, true, true, true, true, true, true, true, true, true, true, true, true, true, true, true, true, true, true, true, true, false, false, false] rfl rfl (one_of HT_.out (by kernel_rfl)) (by decide) (fun K hK => ?_)
               refine goes_ Tryd.func133 (by kernel_rfl) rfl #[.agg #[.int .i64 ((rd_T149 l0_3 (ji18)).f0), .slice A568_1 ((rd_T149 l0_3 (ji18)).f1).length c568_1, .slice A568_2 ((rd_T149 l0_3 (ji18)).f2).length c568_2], .agg #[.int .i64 ((rd_T149 l0_3 x9_1).f0), .slice A558_1 ((rd_T149 l0_3 x9_1).f1).length c558_1, .slice A558_2 ((rd_T149 l0_3 x9_1).f2).length c558_2]] (by rfl) rfl rfl (by (try simp only [List.map_toArray, List.map_cons, List.map_nil]); first | done | (simp only [hji18]; rfl) | rfl | (simp only [List.length_drop, List.length_take]; rfl)) ?_
               with_reducible refine (impl_compareJoints.calls k1 ((rd_T149 l0_3 (ji18)).f0) _ _ ((rd_T149 l0_3 (ji18)).f1) _ _ ((rd_T149 l0_3 (ji18)).f2) ((rd_T149 l0_3 x9_1).f0) _ _ ((rd_T149 l0_3 x9_1).f1) _ _ ((rd_T149 l0_3 x9_1).f2) t569 _ ?side1 ?side2 ?side3 ?side4 ?side5 ?side6 ?side7 ?side8 A21.out).mono ?_
               (case side1 => exact cP (Kd.C_below HR568_1.out (bW)))
               (case side2 => exact HC568_1.out)
               (case side3 => exact cP (Kd.C_below HR568_2.out (bW)))
               (case side4 => exact HC568_2.out)
               (case side5 => exact cP (Kd.C_below HR558_1.out (bW)))
               (case side6 => exact HC558_1.out)
               (case side7 => exact cP (Kd.C_below HR558_2.out (bW)))
               (case side8 => exact HC558_2.out)
               rintro e w42 ⟨rfl, hb⟩
               refine ⟨_, rfl, ?_⟩
               have n0_ := Aside0.mk (Kd.R_below (rP HO565.out) hb)
               have n1_ := Aside0.mk (blkB BK557.out hb)
               have n2_ := Aside0.mk (blkB BK559.out hb)
               have n3_ := Aside0.mk (below_step (bW) hb)
               clear HO565
               clear BK557
               clear BK559
               clear HB
               have HO565 := n0_
               have BK557 := n1_
               have BK559 := n2_
               have HB := n3_
               clear n0_ n1_ n2_ n3_
               (try clear hb)
               (try clear hb2)
               (try clear hk)
               (try clear hi)
               refine hK.out _ _ ⟨(blk_cell BK559.out 0).trans rfl, (blk_cell BK559.out 1).trans rfl, (blk_cell BK559.out 2).trans rfl, (blk_cell BK557.out 0).trans rfl, (blk_cell BK557.out 1).trans rfl, (blk_cell BK557.out 2).trans rfl, (blk_cell BK557.out 3).trans rfl, (blk_cell BK557.out 4).trans rfl, ((HB.out.cell (World.block_lt_of_cell? w _ hw568_0)).trans hw568_0), ((HB.out.cell (World.block_lt_of_cell? w _ hw568_1)).trans hw568_1), ((HB.out.cell (World.block_lt_of_cell? w _ hw568_2)).trans hw568_2)⟩ (fun hHeld => ?_)
               clear hK K
               refine norm_ (a' := ?_) ?_ ?_
               rotate_left
               ·show Act.put _ (some 54) _ = _
                simp only [Act.put, List.setIfInBounds_toArray, List.set_cons_zero, List.set_cons_succ, i64_w, i32_w]
                rfl
               refine pureS (i := 24) (N := some 55) (any_of HT_.out (by kernel_rfl)) ?_
               refine pureS (i := 25) (N := some 56) (any_of HT_.out (by kernel_rfl)) ?_
               refine pureS (i := 26) (N := some 57) (any_of HT_.out (by kernel_rfl)) ?_
               refine done_ (done_of HT_.out (by kernel_rfl)) ?_
               try go_wp2
               go_roundg k1
               case measure => have := HK1.out; omega
               case rel => exact ⟨(wrap64 (x9_1 + 1)), (eW), H', ⟨by have := HK1.out; omega⟩, ⟨(bP BK557.out)⟩, ⟨bW⟩⟩
             ·rw [if_neg c20] at H
              exact absurd H (by simp)
            ·rw [if_neg c19] at H
             exact absurd H (by simp)
           ·rw [if_neg c17] at H
            have c17b0 : decide (0 < x9_1) = false := decide_eq_false c17
            clear c17
            have H' := Aside0.mk H
            clear H
            have p558 : 0 ≤ (x9_1 : Int) := ofD
            have q558 : x9_1 < (l0_3.length : Int) := ofD
            obtain ⟨ad558, A558_1, c558_1, A558_2, c558_2, e558, hx558_0, hx558_1, hx558_2, hl558_1, hi558_1, hl558_2, hi558_2⟩ := at_T149 HR0_3.out x9_1 p558 q558
            cases e558
            replace hx558_0 := (HB.out.cell (World.block_lt_of_cell? w _ hx558_0)).trans hx558_0
            replace hx558_1 := (HB.out.cell (World.block_lt_of_cell? w _ hx558_1)).trans hx558_1
            replace hx558_2 := (HB.out.cell (World.block_lt_of_cell? w _ hx558_2)).trans hx558_2
            have HR558_1 := Aside0.mk hi558_1
            have HC558_1 := Aside0.mk hl558_1
            clear hi558_1 hl558_1
            have HR558_2 := Aside0.mk hi558_2
            have HC558_2 := Aside0.mk hl558_2
            clear hi558_2 hl558_2
            replace p558 := eq_true p558
            replace q558 := eq_true q558
            try go_wp2_with (first | ((with_reducible refine gate_dst (N := 4) rfl ?_); refine boxS (N := 4) (cs := #[.int .i64 0, .slice none 0 0, .slice none 0 0]) (t := 149) ?_; intro gb559 hg w43 hbox hb; have n0_ := Aside0.mk (blkB BK557.out hb); have n1_ := Aside0.mk (below_step (bW) hb); have n2_ := Aside0.mk (hbox); have n3_ := geW (w := w) hg; have n4_ := geW (w := w) hg; have n5_ := Aside0.mk ((by rw [hg]; exact Nat.ne_of_lt (blk_lt (g := gb557) (o := .cells #[.slice A0_0 l0_0.length c0_0, .slice A0_1 l0_1.length c0_1, .slice A0_2 l0_2.length c0_2, .slice (some ad558) l0_3.length c0_3, .slice A0_4 l0_4.length c0_4] 65 (0, 0)) (bP BK557.out)) : gb557 ≠ gb559)); have n6_ := Aside0.mk ((by rw [hg]; exact Nat.ne_of_gt (blk_lt (g := gb557) (o := .cells #[.slice A0_0 l0_0.length c0_0, .slice A0_1 l0_1.length c0_1, .slice A0_2 l0_2.length c0_2, .slice (some ad558) l0_3.length c0_3, .slice A0_4 l0_4.length c0_4] 65 (0, 0)) (bP BK557.out)) : gb559 ≠ gb557)); clear BK557; clear HB; have BK557 := n0_; have HB := n1_; have BK559 := n2_; have GW559 := n3_; have GE559 := n4_; have NB557_559 := n5_; have NB559_557 := n6_; clear n0_ n1_ n2_ n3_ n4_ n5_ n6_; clear hb hbox hg; have hnb44 := NB559_557.out; have hnc44 := NB557_559.out; obtain ⟨hcz45_0, hcz45_1, hcz45_2⟩ := cells3 BK559.out; obtain ⟨hfz45_0, hfz45_1, hfz45_2⟩ := frz3 BK559.out))
            have n0_ : Aside0 ((((w43.setCell ⟨gb559, 0, none⟩ (.int .i64 ((rd_T149 l0_3 x9_1).f0))).setCell ⟨gb559, 1, none⟩ (.slice A558_1 ((rd_T149 l0_3 x9_1).f1).length c558_1)).setCell ⟨gb559, 2, none⟩ (.slice A558_2 ((rd_T149 l0_3 x9_1).f2).length c558_2)).heap[gb557]? = some (.cells #[.slice A0_0 l0_0.length c0_0, .slice A0_1 l0_1.length c0_1, .slice A0_2 l0_2.length c0_2, .slice (some ad558) l0_3.length c0_3, .slice A0_4 l0_4.length c0_4] 65 (0, 0))) := ⟨by (with_reducible repeat (first | refine blk_drewN ?_ _ | refine blk_drew ?_ | refine blk_alloc ?_ _)); refine blk_far ?_ NB557_559.out _; (with_reducible repeat (first | refine blk_drewN ?_ _ | refine blk_drew ?_ | refine blk_alloc ?_ _)); refine blk_far ?_ NB557_559.out _; (with_reducible repeat (first | refine blk_drewN ?_ _ | refine blk_drew ?_ | refine blk_alloc ?_ _)); refine blk_far ?_ NB557_559.out _; exact bP BK557.out⟩
            have n1_ : Aside0 ((((w43.setCell ⟨gb559, 0, none⟩ (.int .i64 ((rd_T149 l0_3 x9_1).f0))).setCell ⟨gb559, 1, none⟩ (.slice A558_1 ((rd_T149 l0_3 x9_1).f1).length c558_1)).setCell ⟨gb559, 2, none⟩ (.slice A558_2 ((rd_T149 l0_3 x9_1).f2).length c558_2)).heap[gb559]? = some (.cells #[.int .i64 ((rd_T149 l0_3 x9_1).f0), .slice A558_1 ((rd_T149 l0_3 x9_1).f1).length c558_1, .slice A558_2 ((rd_T149 l0_3 x9_1).f2).length c558_2] 149 (0, 0))) := ⟨by (with_reducible repeat (first | refine blk_drewN ?_ _ | refine blk_drew ?_ | refine blk_alloc ?_ _)); refine blk_put (cs := #[.int .i64 ((rd_T149 l0_3 x9_1).f0), .slice A558_1 ((rd_T149 l0_3 x9_1).f1).length c558_1, .slice none 0 0]) ?_ 2 _ rfl; (with_reducible repeat (first | refine blk_drewN ?_ _ | refine blk_drew ?_ | refine blk_alloc ?_ _)); refine blk_put (cs := #[.int .i64 ((rd_T149 l0_3 x9_1).f0), .slice none 0 0, .slice none 0 0]) ?_ 1 _ rfl; (with_reducible repeat (first | refine blk_drewN ?_ _ | refine blk_drew ?_ | refine blk_alloc ?_ _)); refine blk_put (cs := #[.int .i64 0, .slice none 0 0, .slice none 0 0]) ?_ 0 _ rfl; exact bP BK559.out⟩
            have n2_ : Aside0 (Below w.heap.size w (((w43.setCell ⟨gb559, 0, none⟩ (.int .i64 ((rd_T149 l0_3 x9_1).f0))).setCell ⟨gb559, 1, none⟩ (.slice A558_1 ((rd_T149 l0_3 x9_1).f1).length c558_1)).setCell ⟨gb559, 2, none⟩ (.slice A558_2 ((rd_T149 l0_3 x9_1).f2).length c558_2))) := ⟨bW⟩
            (try clear BK557)
            (try clear BK559)
            (try clear HB)
            generalize (((w43.setCell ⟨gb559, 0, none⟩ (.int .i64 ((rd_T149 l0_3 x9_1).f0))).setCell ⟨gb559, 1, none⟩ (.slice A558_1 ((rd_T149 l0_3 x9_1).f1).length c558_1)).setCell ⟨gb559, 2, none⟩ (.slice A558_2 ((rd_T149 l0_3 x9_1).f2).length c558_2)) = w46 at n0_ n1_ n2_ ⊢
            have BK557 := n0_
            have BK559 := n1_
            have HB := n2_
            clear n0_ n1_ n2_
            have n0_ := Aside0.mk (blk_drew BK557.out)
            have n1_ := Aside0.mk (blk_drew BK559.out)
            have n2_ := Aside0.mk (below_drew1 HB.out)
            clear BK557
            clear BK559
            clear HB
            have BK557 := n0_
            have BK559 := n1_
            have HB := n2_
            clear n0_ n1_ n2_
            refine start_ (n := 8) (S := fun w' => w'.cell? ⟨gb559, 0, none⟩ = some (.int .i64 ((rd_T149 l0_3 x9_1).f0)) ∧ w'.cell? ⟨gb559, 1, none⟩ = some (.slice A558_1 ((rd_T149 l0_3 x9_1).f1).length c558_1) ∧ w'.cell? ⟨gb559, 2, none⟩ = some (.slice A558_2 ((rd_T149 l0_3 x9_1).f2).length c558_2) ∧ w'.cell? ⟨gb557, 0, none⟩ = some (.slice A0_0 l0_0.length c0_0) ∧ w'.cell? ⟨gb557, 1, none⟩ = some (.slice A0_1 l0_1.length c0_1) ∧ w'.cell? ⟨gb557, 2, none⟩ = some (.slice A0_2 l0_2.length c0_2) ∧ w'.cell? ⟨gb557, 3, none⟩ = some (.slice (some ad558) l0_3.length c0_3) ∧ w'.cell? ⟨gb557, 4, none⟩ = some (.slice A0_4 l0_4.length c0_4)) (ds := []) #[false, false, false, false, false, false, false, false] (by kernel_rfl) rfl rfl ⟨(blk_cell BK559.out 0).trans rfl, (blk_cell BK559.out 1).trans rfl, (blk_cell BK559.out 2).trans rfl, (blk_cell BK557.out 0).trans rfl, (blk_cell BK557.out 1).trans rfl, (blk_cell BK557.out 2).trans rfl, (blk_cell BK557.out 3).trans rfl, (blk_cell BK557.out 4).trans rfl⟩ (fun hHeld => ?_); refine with_tabW impl_goodJoints.tab4 impl_goodJoints.bits4 (fun HT_ HW_ => ?_)
            generalize w46.drew = w47 at BK557 BK559 HB hHeld ⊢
            refine pureS (i := 0) (N := some 14) (any_of HT_.out (by kernel_rfl)) ?_
            refine pureS (i := 2) (N := some 16) (any_of HT_.out (by kernel_rfl)) ?_
            refine takeS (i := 1) (N := some 15) (take_ofW HT_.out HW_.out (by kernel_rfl)) hHeld ?_
            refine takeS (i := 3) (N := some 17) (take_ofW HT_.out HW_.out (by kernel_rfl)) hHeld ?_
            refine one_ (i := 4) (N := some 18) #[true, true, true, true, true, false, false, false] rfl rfl (one_of HT_.out (by kernel_rfl)) (by decide) (fun K hK => ?_)
            refine goes_ Tryd.func80 (by kernel_rfl) rfl #[.slice A0_0 l0_0.length c0_0] (by rfl) rfl rfl (by (try simp only [List.map_toArray, List.map_cons, List.map_nil]); first | done | rfl | (simp only [List.length_drop, List.length_take]; rfl)) ?_
            with_reducible refine (impl_length_int64_80.calls _ _ l0_0 t560 _ ?side1 ?side2 A7.out).mono ?_
            (case side1 => exact cP (Kd.C_below HR0_0.out HB.out))
            (case side2 => exact HC0_0.out)
            rintro e w' ⟨rfl, ⟨nd, rfl⟩⟩
            refine ⟨_, rfl, ?_⟩
            refine hK.out _ _ ⟨(blk_cell BK559.out 0).trans rfl, (blk_cell BK559.out 1).trans rfl, (blk_cell BK559.out 2).trans rfl, (blk_cell BK557.out 0).trans rfl, (blk_cell BK557.out 1).trans rfl, (blk_cell BK557.out 2).trans rfl, (blk_cell BK557.out 3).trans rfl, (blk_cell BK557.out 4).trans rfl⟩ (fun hHeld => ?_)
            clear hK K
            refine norm_ (a' := ?_) ?_ ?_
            rotate_left
            ·show Act.put _ (some 18) _ = _
             simp only [Act.put, List.setIfInBounds_toArray, List.set_cons_zero, List.set_cons_succ, i64_w, i32_w]
             rfl
            refine pureS (i := 5) (N := some 19) (any_of HT_.out (by kernel_rfl)) ?_
            refine one_ (i := 6) (N := some 20) #[true, true, true, true, true, true, true, false] rfl rfl (one_of HT_.out (by kernel_rfl)) (by decide) (fun K hK => ?_)
            refine goes_ Tryd.func109 (by kernel_rfl) rfl #[.int .i64 ((rd_T149 l0_3 x9_1).f0), .int .i64 0, .int .i64 (wrap64 (t560 - 1))] (by rfl) rfl rfl (by (try simp only [List.map_toArray, List.map_cons, List.map_nil]); first | done | rfl | (simp only [List.length_drop, List.length_take]; rfl)) ?_
            with_reducible refine (impl_inRange.calls ((rd_T149 l0_3 x9_1).f0) 0 (wrap64 (t560 - 1)) true _ A8.out).mono ?_
            rintro e w' ⟨rfl, ⟨nd, rfl⟩⟩
            refine ⟨_, rfl, ?_⟩
            refine hK.out _ _ ⟨(blk_cell BK559.out 0).trans rfl, (blk_cell BK559.out 1).trans rfl, (blk_cell BK559.out 2).trans rfl, (blk_cell BK557.out 0).trans rfl, (blk_cell BK557.out 1).trans rfl, (blk_cell BK557.out 2).trans rfl, (blk_cell BK557.out 3).trans rfl, (blk_cell BK557.out 4).trans rfl⟩ (fun hHeld => ?_)
            clear hK K
            refine norm_ (a' := ?_) ?_ ?_
            rotate_left
            ·show Act.put _ (some 20) _ = _
             simp only [Act.put, List.setIfInBounds_toArray, List.set_cons_zero, List.set_cons_succ, i64_w, i32_w]
             rfl
            refine pureS (i := 7) (N := some 21) (any_of HT_.out (by kernel_rfl)) ?_
            refine done_ (done_of HT_.out (by kernel_rfl)) ?_
            try go_wp2
            (try ((repeat rw [World.drewN_drewN w47]); (first | generalize hq_ : World.drewN w47 _ = w47 | (rw [drewN_self w47]; generalize hq_ : World.drewN w47 _ = w47)); have n0_ : Aside0 (w47.heap[gb557]? = some (.cells #[.slice A0_0 l0_0.length c0_0, .slice A0_1 l0_1.length c0_1, .slice A0_2 l0_2.length c0_2, .slice (some ad558) l0_3.length c0_3, .slice A0_4 l0_4.length c0_4] 65 (0, 0))) := ⟨by rw [← hq_]; exact (bP BK557.out)⟩; have n1_ : Aside0 (w47.heap[gb559]? = some (.cells #[.int .i64 ((rd_T149 l0_3 x9_1).f0), .slice A558_1 ((rd_T149 l0_3 x9_1).f1).length c558_1, .slice A558_2 ((rd_T149 l0_3 x9_1).f2).length c558_2] 149 (0, 0))) := ⟨by rw [← hq_]; exact (bP BK559.out)⟩; have n2_ : Aside0 (Below w.heap.size w w47) := ⟨by rw [← hq_]; exact (bW)⟩; clear BK557 BK559 HB hq_; have BK557 := n0_; have BK559 := n1_; have HB := n2_; clear n0_ n1_ n2_))
            have n0_ := Aside0.mk (blk_drew BK557.out)
            have n1_ := Aside0.mk (blk_drew BK559.out)
            have n2_ := Aside0.mk (below_drew1 HB.out)
            clear BK557
            clear BK559
            clear HB
            have BK557 := n0_
            have BK559 := n1_
            have HB := n2_
            clear n0_ n1_ n2_
            have p562 : 0 ≤ (((rd_T149 l0_3 x9_1).f0) : Int) := ofD
            have q562 : ((rd_T149 l0_3 x9_1).f0) < (l0_0.length : Int) := ofD
            obtain ⟨ad562, e562, hx562_0⟩ := Kd.at_int HR0_0.out ((rd_T149 l0_3 x9_1).f0) p562 q562
            have hw562_0 := hx562_0
            cases e562
            replace hx562_0 := (HB.out.cell (World.block_lt_of_cell? w _ hx562_0)).trans hx562_0
            replace p562 := eq_true p562
            replace q562 := eq_true q562
            refine start_ (n := 10) (S := fun w' => w'.cell? ⟨gb557, 0, none⟩ = some (.slice (some ad562) l0_0.length c0_0) ∧ w'.cell? ⟨gb557, 1, none⟩ = some (.slice A0_1 l0_1.length c0_1) ∧ w'.cell? ⟨gb557, 2, none⟩ = some (.slice A0_2 l0_2.length c0_2) ∧ w'.cell? ⟨gb557, 3, none⟩ = some (.slice (some ad558) l0_3.length c0_3) ∧ w'.cell? ⟨gb557, 4, none⟩ = some (.slice A0_4 l0_4.length c0_4) ∧ w'.cell? ⟨gb559, 0, none⟩ = some (.int .i64 ((rd_T149 l0_3 x9_1).f0)) ∧ w'.cell? ⟨gb559, 1, none⟩ = some (.slice A558_1 ((rd_T149 l0_3 x9_1).f1).length c558_1) ∧ w'.cell? ⟨gb559, 2, none⟩ = some (.slice A558_2 ((rd_T149 l0_3 x9_1).f2).length c558_2) ∧ w'.cell? (ad562.add (((rd_T149 l0_3 x9_1).f0)).toNat) = some (.int .i64 (rd l0_0 ((rd_T149 l0_3 x9_1).f0)))) (ds := []) #[false, false, false, false, false, false, false, false, false, false] (by kernel_rfl) rfl rfl ⟨(blk_cell BK557.out 0).trans rfl, (blk_cell BK557.out 1).trans rfl, (blk_cell BK557.out 2).trans rfl, (blk_cell BK557.out 3).trans rfl, (blk_cell BK557.out 4).trans rfl, (blk_cell BK559.out 0).trans rfl, (blk_cell BK559.out 1).trans rfl, (blk_cell BK559.out 2).trans rfl, ((HB.out.cell (World.block_lt_of_cell? w _ hw562_0)).trans hw562_0)⟩ (fun hHeld => ?_); refine with_tabW impl_goodJoints.tab6 impl_goodJoints.bits6 (fun HT_ HW_ => ?_)
            generalize w47.drew = w48 at BK557 BK559 HB hx562_0 hHeld ⊢
            refine pureS (i := 0) (N := some 22) (any_of HT_.out (by kernel_rfl)) ?_
            refine pureS (i := 2) (N := some 24) (any_of HT_.out (by kernel_rfl)) ?_
            refine pureS (i := 4) (N := some 26) (any_of HT_.out (by kernel_rfl)) ?_
            refine takeS (i := 1) (N := some 23) (take_ofW HT_.out HW_.out (by kernel_rfl)) hHeld ?_
            refine takeS (i := 3) (N := some 25) (take_ofW HT_.out HW_.out (by kernel_rfl)) hHeld ?_
            refine takeS (i := 5) (N := some 27) (take_ofW HT_.out HW_.out (by kernel_rfl)) hHeld ?_
            refine pureS (i := 6) (N := some 28) (any_of HT_.out (by kernel_rfl)) ?_
            refine takeS (i := 7) (N := some 29) (take_ofW HT_.out HW_.out (by kernel_rfl)) hHeld ?_
            refine one_ (i := 8) (N := some 30) #[true, true, true, true, true, true, true, true, true, false] rfl rfl (one_of HT_.out (by kernel_rfl)) (by decide) (fun K hK => ?_)
            refine goes_ Tryd.func132 (by kernel_rfl) rfl #[.slice A0_1 l0_1.length c0_1, .int .i64 (rd l0_0 ((rd_T149 l0_3 x9_1).f0))] (by rfl) rfl rfl (by (try simp only [List.map_toArray, List.map_cons, List.map_nil]); first | done | rfl | (simp only [List.length_drop, List.length_take]; rfl)) ?_
            with_reducible refine (impl_locals.calls k1 _ _ l0_1 (rd l0_0 ((rd_T149 l0_3 x9_1).f0)) t563 _ ?side1 ?side2 A12.out (tabW HTab.out)).mono ?_
            (case side1 => exact cP (Kd.C_below HR0_1.out HB.out))
            (case side2 => exact HC0_1.out)
            rintro e w49 ⟨v564, rfl, ho0, hb⟩
            refine ⟨_, rfl, ?_⟩
            have n0_ := Aside0.mk (Kd.R_lower ho0 (below_size (bW)))
            have n1_ := Aside0.mk (blkB BK557.out hb)
            have n2_ := Aside0.mk (blkB BK559.out hb)
            have n3_ := Aside0.mk (below_step (bW) hb)
            clear BK557
            clear BK559
            clear HB
            have HO565 := n0_
            have BK557 := n1_
            have BK559 := n2_
            have HB := n3_
            clear n0_ n1_ n2_ n3_
            (try clear hb)
            (try clear hb2)
            (try clear hk)
            (try clear hi)
            (try clear ho0)
            refine hK.out _ _ ⟨(blk_cell BK557.out 0).trans rfl, (blk_cell BK557.out 1).trans rfl, (blk_cell BK557.out 2).trans rfl, (blk_cell BK557.out 3).trans rfl, (blk_cell BK557.out 4).trans rfl, (blk_cell BK559.out 0).trans rfl, (blk_cell BK559.out 1).trans rfl, (blk_cell BK559.out 2).trans rfl, ((HB.out.cell (World.block_lt_of_cell? w _ hw562_0)).trans hw562_0)⟩ (fun hHeld => ?_)
            clear hK K
            refine norm_ (a' := ?_) ?_ ?_
            rotate_left
            ·show Act.put _ (some 30) _ = _
             simp only [Act.put, List.setIfInBounds_toArray, List.set_cons_zero, List.set_cons_succ, i64_w, i32_w]
             rfl
            refine pureS (i := 9) (N := some 5) (any_of HT_.out (by kernel_rfl)) ?_
            refine done_ (done_of HT_.out (by kernel_rfl)) ?_
            try go_wp2
            have n0_ := Aside0.mk (Kd.R_drew HO565.out)
            have n1_ := Aside0.mk (blk_drew BK557.out)
            have n2_ := Aside0.mk (blk_drew BK559.out)
            have n3_ := Aside0.mk (below_drew1 HB.out)
            clear HO565
            clear BK557
            clear BK559
            clear HB
            have HO565 := n0_
            have BK557 := n1_
            have BK559 := n2_
            have HB := n3_
            clear n0_ n1_ n2_ n3_
            obtain ⟨Ao51, co51, eo51⟩ := Kd.R_slice HO565.out
            (first | subst eo51 | (injection eo51 with f1_ f2_ f3_; have f4_ := f1_.symm; have f5_ := f3_.symm; clear f1_ f2_ f3_; subst f4_; subst f5_))
            refine start_ (n := 27) (S := fun w' => w'.cell? ⟨gb559, 0, none⟩ = some (.int .i64 ((rd_T149 l0_3 x9_1).f0)) ∧ w'.cell? ⟨gb559, 1, none⟩ = some (.slice A558_1 ((rd_T149 l0_3 x9_1).f1).length c558_1) ∧ w'.cell? ⟨gb559, 2, none⟩ = some (.slice A558_2 ((rd_T149 l0_3 x9_1).f2).length c558_2)) (ds := []) #[false, false, false, false, false, false, false, false, false, false, false, false, false, false, false, false, false, false, false, false, false, false, false, false, false, false, false] (by kernel_rfl) rfl rfl ⟨(blk_cell BK559.out 0).trans rfl, (blk_cell BK559.out 1).trans rfl, (blk_cell BK559.out 2).trans rfl⟩ (fun hHeld => ?_); refine with_tabW impl_goodJoints.tab7 impl_goodJoints.bits7 (fun HT_ HW_ => ?_)
            generalize w49.drew = w50 at HO565 BK557 BK559 HB hHeld ⊢
            refine pureS (i := 0) (N := some 31) (any_of HT_.out (by kernel_rfl)) ?_
            refine pureS (i := 1) (N := some 32) (any_of HT_.out (by kernel_rfl)) ?_
            refine takeS (i := 2) (N := some 33) (take_ofW HT_.out HW_.out (by kernel_rfl)) hHeld ?_
            refine one_ (i := 3) (N := some 34) #[true, true, true, true, false, false, false, false, false, false, false, false, false, false, false, false, false, false, false, false, false, false, false, false, false, false, false] rfl rfl (one_of HT_.out (by kernel_rfl)) (by decide) (fun K hK => ?_)
            refine goes_ Tryd.func82 (by kernel_rfl) rfl #[.slice Ao51 t563.length co51, .slice A558_1 ((rd_T149 l0_3 x9_1).f1).length c558_1] (by rfl) rfl rfl (by (try simp only [List.map_toArray, List.map_cons, List.map_nil]); first | done | rfl | (simp only [List.length_drop, List.length_take]; rfl)) ?_
            with_reducible refine (impl_isGlobal.calls k1 _ _ t563 _ _ ((rd_T149 l0_3 x9_1).f1) true _ ?side1 ?side2 ?side3 ?side4 A13.out).mono ?_
            (case side1 => exact cP ((Kd.R_reads' HO565.out).2.2))
            (case side2 => exact (Kd.R_reads' HO565.out).2.1)
            (case side3 => exact cP (Kd.C_below HR558_1.out HB.out))
            (case side4 => exact HC558_1.out)
            rintro e w' ⟨rfl, ⟨nd, rfl⟩⟩
            refine ⟨_, rfl, ?_⟩
            refine hK.out _ _ ⟨(blk_cell BK559.out 0).trans rfl, (blk_cell BK559.out 1).trans rfl, (blk_cell BK559.out 2).trans rfl⟩ (fun hHeld => ?_)
            clear hK K
            refine norm_ (a' := ?_) ?_ ?_
            rotate_left
            ·show Act.put _ (some 34) _ = _
             simp only [Act.put, List.setIfInBounds_toArray, List.set_cons_zero, List.set_cons_succ, i64_w, i32_w]
             rfl
            refine pureS (i := 4) (N := some 35) (any_of HT_.out (by kernel_rfl)) ?_
            refine pureS (i := 5) (N := some 36) (any_of HT_.out (by kernel_rfl)) ?_
            refine pureS (i := 6) (N := some 37) (any_of HT_.out (by kernel_rfl)) ?_
            refine pureS (i := 7) (N := some 38) (any_of HT_.out (by kernel_rfl)) ?_
            refine takeS (i := 8) (N := some 39) (take_ofW HT_.out HW_.out (by kernel_rfl)) hHeld ?_
            refine one_ (i := 9) (N := some 40) #[true, true, true, true, true, true, true, true, true, true, false, false, false, false, false, false, false, false, false, false, false, false, false, false, false, false, false] rfl rfl (one_of HT_.out (by kernel_rfl)) (by decide) (fun K hK => ?_)
            refine goes_ Tryd.func82 (by kernel_rfl) rfl #[.slice Ao51 t563.length co51, .slice A558_2 ((rd_T149 l0_3 x9_1).f2).length c558_2] (by rfl) rfl rfl (by (try simp only [List.map_toArray, List.map_cons, List.map_nil]); first | done | rfl | (simp only [List.length_drop, List.length_take]; rfl)) ?_
            with_reducible refine (impl_isGlobal.calls k1 _ _ t563 _ _ ((rd_T149 l0_3 x9_1).f2) true _ ?side1 ?side2 ?side3 ?side4 A15.out).mono ?_
            (case side1 => exact cP ((Kd.R_reads' HO565.out).2.2))
            (case side2 => exact (Kd.R_reads' HO565.out).2.1)
            (case side3 => exact cP (Kd.C_below HR558_2.out (bW)))
            (case side4 => exact HC558_2.out)
            rintro e w' ⟨rfl, ⟨nd, rfl⟩⟩
            refine ⟨_, rfl, ?_⟩
            refine hK.out _ _ ⟨(blk_cell BK559.out 0).trans rfl, (blk_cell BK559.out 1).trans rfl, (blk_cell BK559.out 2).trans rfl⟩ (fun hHeld => ?_)
            clear hK K
            refine norm_ (a' := ?_) ?_ ?_
            rotate_left
            ·show Act.put _ (some 40) _ = _
             simp only [Act.put, List.setIfInBounds_toArray, List.set_cons_zero, List.set_cons_succ, i64_w, i32_w]
             rfl
            refine pureS (i := 10) (N := some 41) (any_of HT_.out (by kernel_rfl)) ?_
            refine pureS (i := 11) (N := some 42) (any_of HT_.out (by kernel_rfl)) ?_
            refine pureS (i := 12) (N := some 43) (any_of HT_.out (by kernel_rfl)) ?_
            refine pureS (i := 13) (N := some 44) (any_of HT_.out (by kernel_rfl)) ?_
            refine pureS (i := 14) (N := some 45) (any_of HT_.out (by kernel_rfl)) ?_
            refine pureS (i := 15) (N := some 46) (any_of HT_.out (by kernel_rfl)) ?_
            refine pureU (i := 16) (N := some 47) (any_of HT_.out (by kernel_rfl)) ?_
            refine pureU (i := 17) (N := some 48) (any_of HT_.out (by kernel_rfl)) ?_
            refine pureU (i := 18) (N := some 49) (any_of HT_.out (by kernel_rfl)) ?_
            refine pureU (i := 19) (N := some 50) (any_of HT_.out (by kernel_rfl)) ?_
            refine pureU (i := 20) (N := some 51) (any_of HT_.out (by kernel_rfl)) ?_
            refine pureU (i := 21) (N := some 52) (any_of HT_.out (by kernel_rfl)) ?_
            refine pureU (i := 22) (N := some 53) (any_of HT_.out (by kernel_rfl)) ?_
            refine pureU (i := 23) (N := some 54) (any_of HT_.out (by kernel_rfl)) ?_
            refine pureU (i := 24) (N := some 55) (any_of HT_.out (by kernel_rfl)) ?_
            refine pureS (i := 25) (N := some 56) (any_of HT_.out (by kernel_rfl)) ?_
            refine pureS (i := 26) (N := some 57) (any_of HT_.out (by kernel_rfl)) ?_
            refine done_ (done_of HT_.out (by kernel_rfl)) ?_
            try go_wp2
            go_roundg k1
            case measure => have := HK1.out; omega
            case rel => exact ⟨(wrap64 (x9_1 + 1)), (eW), H', ⟨by have := HK1.out; omega⟩, ⟨(bP BK557.out)⟩, ⟨bW⟩⟩
          ·replace c16 := Bool.eq_false_iff.mpr c16
           subst c16
           have H1 : (some false) = some r := by rw [if_neg (show ¬ (false = true) by decide)] at H; exact H
           clear H
           have H := H1
           clear H1
           obtain rfl := Option.some.inj H
           have p558 : 0 ≤ (x9_1 : Int) := ofD
           have q558 : x9_1 < (l0_3.length : Int) := ofD
           obtain ⟨ad558, A558_1, c558_1, A558_2, c558_2, e558, hx558_0, hx558_1, hx558_2, hl558_1, hi558_1, hl558_2, hi558_2⟩ := at_T149 HR0_3.out x9_1 p558 q558
           cases e558
           replace hx558_0 := (HB.out.cell (World.block_lt_of_cell? w _ hx558_0)).trans hx558_0
           replace hx558_1 := (HB.out.cell (World.block_lt_of_cell? w _ hx558_1)).trans hx558_1
           replace hx558_2 := (HB.out.cell (World.block_lt_of_cell? w _ hx558_2)).trans hx558_2
           have HR558_1 := Aside0.mk hi558_1
           have HC558_1 := Aside0.mk hl558_1
           clear hi558_1 hl558_1
           have HR558_2 := Aside0.mk hi558_2
           have HC558_2 := Aside0.mk hl558_2
           clear hi558_2 hl558_2
           replace p558 := eq_true p558
           replace q558 := eq_true q558
           try go_wp2_with (first | ((with_reducible refine gate_dst (N := 4) rfl ?_); refine boxS (N := 4) (cs := #[.int .i64 0, .slice none 0 0, .slice none 0 0]) (t := 149) ?_; intro gb559 hg w52 hbox hb; have n0_ := Aside0.mk (blkB BK557.out hb); have n1_ := Aside0.mk (below_step (bW) hb); have n2_ := Aside0.mk (hbox); have n3_ := geW (w := w) hg; have n4_ := geW (w := w) hg; have n5_ := Aside0.mk ((by rw [hg]; exact Nat.ne_of_lt (blk_lt (g := gb557) (o := .cells #[.slice A0_0 l0_0.length c0_0, .slice A0_1 l0_1.length c0_1, .slice A0_2 l0_2.length c0_2, .slice (some ad558) l0_3.length c0_3, .slice A0_4 l0_4.length c0_4] 65 (0, 0)) (bP BK557.out)) : gb557 ≠ gb559)); have n6_ := Aside0.mk ((by rw [hg]; exact Nat.ne_of_gt (blk_lt (g := gb557) (o := .cells #[.slice A0_0 l0_0.length c0_0, .slice A0_1 l0_1.length c0_1, .slice A0_2 l0_2.length c0_2, .slice (some ad558) l0_3.length c0_3, .slice A0_4 l0_4.length c0_4] 65 (0, 0)) (bP BK557.out)) : gb559 ≠ gb557)); clear BK557; clear HB; have BK557 := n0_; have HB := n1_; have BK559 := n2_; have GW559 := n3_; have GE559 := n4_; have NB557_559 := n5_; have NB559_557 := n6_; clear n0_ n1_ n2_ n3_ n4_ n5_ n6_; clear hb hbox hg; have hnb53 := NB559_557.out; have hnc53 := NB557_559.out; obtain ⟨hcz54_0, hcz54_1, hcz54_2⟩ := cells3 BK559.out; obtain ⟨hfz54_0, hfz54_1, hfz54_2⟩ := frz3 BK559.out))
           have n0_ : Aside0 ((((w52.setCell ⟨gb559, 0, none⟩ (.int .i64 ((rd_T149 l0_3 x9_1).f0))).setCell ⟨gb559, 1, none⟩ (.slice A558_1 ((rd_T149 l0_3 x9_1).f1).length c558_1)).setCell ⟨gb559, 2, none⟩ (.slice A558_2 ((rd_T149 l0_3 x9_1).f2).length c558_2)).heap[gb557]? = some (.cells #[.slice A0_0 l0_0.length c0_0, .slice A0_1 l0_1.length c0_1, .slice A0_2 l0_2.length c0_2, .slice (some ad558) l0_3.length c0_3, .slice A0_4 l0_4.length c0_4] 65 (0, 0))) := ⟨by (with_reducible repeat (first | refine blk_drewN ?_ _ | refine blk_drew ?_ | refine blk_alloc ?_ _)); refine blk_far ?_ NB557_559.out _; (with_reducible repeat (first | refine blk_drewN ?_ _ | refine blk_drew ?_ | refine blk_alloc ?_ _)); refine blk_far ?_ NB557_559.out _; (with_reducible repeat (first | refine blk_drewN ?_ _ | refine blk_drew ?_ | refine blk_alloc ?_ _)); refine blk_far ?_ NB557_559.out _; exact bP BK557.out⟩
           have n1_ : Aside0 ((((w52.setCell ⟨gb559, 0, none⟩ (.int .i64 ((rd_T149 l0_3 x9_1).f0))).setCell ⟨gb559, 1, none⟩ (.slice A558_1 ((rd_T149 l0_3 x9_1).f1).length c558_1)).setCell ⟨gb559, 2, none⟩ (.slice A558_2 ((rd_T149 l0_3 x9_1).f2).length c558_2)).heap[gb559]? = some (.cells #[.int .i64 ((rd_T149 l0_3 x9_1).f0), .slice A558_1 ((rd_T149 l0_3 x9_1).f1).length c558_1, .slice A558_2 ((rd_T149 l0_3 x9_1).f2).length c558_2] 149 (0, 0))) := ⟨by (with_reducible repeat (first | refine blk_drewN ?_ _ | refine blk_drew ?_ | refine blk_alloc ?_ _)); refine blk_put (cs := #[.int .i64 ((rd_T149 l0_3 x9_1).f0), .slice A558_1 ((rd_T149 l0_3 x9_1).f1).length c558_1, .slice none 0 0]) ?_ 2 _ rfl; (with_reducible repeat (first | refine blk_drewN ?_ _ | refine blk_drew ?_ | refine blk_alloc ?_ _)); refine blk_put (cs := #[.int .i64 ((rd_T149 l0_3 x9_1).f0), .slice none 0 0, .slice none 0 0]) ?_ 1 _ rfl; (with_reducible repeat (first | refine blk_drewN ?_ _ | refine blk_drew ?_ | refine blk_alloc ?_ _)); refine blk_put (cs := #[.int .i64 0, .slice none 0 0, .slice none 0 0]) ?_ 0 _ rfl; exact bP BK559.out⟩
           have n2_ : Aside0 (Below w.heap.size w (((w52.setCell ⟨gb559, 0, none⟩ (.int .i64 ((rd_T149 l0_3 x9_1).f0))).setCell ⟨gb559, 1, none⟩ (.slice A558_1 ((rd_T149 l0_3 x9_1).f1).length c558_1)).setCell ⟨gb559, 2, none⟩ (.slice A558_2 ((rd_T149 l0_3 x9_1).f2).length c558_2))) := ⟨bW⟩
           (try clear BK557)
           (try clear BK559)
           (try clear HB)
           generalize (((w52.setCell ⟨gb559, 0, none⟩ (.int .i64 ((rd_T149 l0_3 x9_1).f0))).setCell ⟨gb559, 1, none⟩ (.slice A558_1 ((rd_T149 l0_3 x9_1).f1).length c558_1)).setCell ⟨gb559, 2, none⟩ (.slice A558_2 ((rd_T149 l0_3 x9_1).f2).length c558_2)) = w55 at n0_ n1_ n2_ ⊢
           have BK557 := n0_
           have BK559 := n1_
           have HB := n2_
           clear n0_ n1_ n2_
           have n0_ := Aside0.mk (blk_drew BK557.out)
           have n1_ := Aside0.mk (blk_drew BK559.out)
           have n2_ := Aside0.mk (below_drew1 HB.out)
           clear BK557
           clear BK559
           clear HB
           have BK557 := n0_
           have BK559 := n1_
           have HB := n2_
           clear n0_ n1_ n2_
           refine start_ (n := 8) (S := fun w' => w'.cell? ⟨gb559, 0, none⟩ = some (.int .i64 ((rd_T149 l0_3 x9_1).f0)) ∧ w'.cell? ⟨gb559, 1, none⟩ = some (.slice A558_1 ((rd_T149 l0_3 x9_1).f1).length c558_1) ∧ w'.cell? ⟨gb559, 2, none⟩ = some (.slice A558_2 ((rd_T149 l0_3 x9_1).f2).length c558_2) ∧ w'.cell? ⟨gb557, 0, none⟩ = some (.slice A0_0 l0_0.length c0_0) ∧ w'.cell? ⟨gb557, 1, none⟩ = some (.slice A0_1 l0_1.length c0_1) ∧ w'.cell? ⟨gb557, 2, none⟩ = some (.slice A0_2 l0_2.length c0_2) ∧ w'.cell? ⟨gb557, 3, none⟩ = some (.slice (some ad558) l0_3.length c0_3) ∧ w'.cell? ⟨gb557, 4, none⟩ = some (.slice A0_4 l0_4.length c0_4)) (ds := []) #[false, false, false, false, false, false, false, false] (by kernel_rfl) rfl rfl ⟨(blk_cell BK559.out 0).trans rfl, (blk_cell BK559.out 1).trans rfl, (blk_cell BK559.out 2).trans rfl, (blk_cell BK557.out 0).trans rfl, (blk_cell BK557.out 1).trans rfl, (blk_cell BK557.out 2).trans rfl, (blk_cell BK557.out 3).trans rfl, (blk_cell BK557.out 4).trans rfl⟩ (fun hHeld => ?_); refine with_tabW impl_goodJoints.tab4 impl_goodJoints.bits4 (fun HT_ HW_ => ?_)
           generalize w55.drew = w56 at BK557 BK559 HB hHeld ⊢
           refine pureS (i := 0) (N := some 14) (any_of HT_.out (by kernel_rfl)) ?_
           refine pureS (i := 2) (N := some 16) (any_of HT_.out (by kernel_rfl)) ?_
           refine takeS (i := 1) (N := some 15) (take_ofW HT_.out HW_.out (by kernel_rfl)) hHeld ?_
           refine takeS (i := 3) (N := some 17) (take_ofW HT_.out HW_.out (by kernel_rfl)) hHeld ?_
           refine one_ (i := 4) (N := some 18) #[true, true, true, true, true, false, false, false] rfl rfl (one_of HT_.out (by kernel_rfl)) (by decide) (fun K hK => ?_)
           refine goes_ Tryd.func80 (by kernel_rfl) rfl #[.slice A0_0 l0_0.length c0_0] (by rfl) rfl rfl (by (try simp only [List.map_toArray, List.map_cons, List.map_nil]); first | done | rfl | (simp only [List.length_drop, List.length_take]; rfl)) ?_
           with_reducible refine (impl_length_int64_80.calls _ _ l0_0 t560 _ ?side1 ?side2 A7.out).mono ?_
           (case side1 => exact cP (Kd.C_below HR0_0.out HB.out))
           (case side2 => exact HC0_0.out)
           rintro e w' ⟨rfl, ⟨nd, rfl⟩⟩
           refine ⟨_, rfl, ?_⟩
           refine hK.out _ _ ⟨(blk_cell BK559.out 0).trans rfl, (blk_cell BK559.out 1).trans rfl, (blk_cell BK559.out 2).trans rfl, (blk_cell BK557.out 0).trans rfl, (blk_cell BK557.out 1).trans rfl, (blk_cell BK557.out 2).trans rfl, (blk_cell BK557.out 3).trans rfl, (blk_cell BK557.out 4).trans rfl⟩ (fun hHeld => ?_)
           clear hK K
           refine norm_ (a' := ?_) ?_ ?_
           rotate_left
           ·show Act.put _ (some 18) _ = _
            simp only [Act.put, List.setIfInBounds_toArray, List.set_cons_zero, List.set_cons_succ, i64_w, i32_w]
            rfl
           refine pureS (i := 5) (N := some 19) (any_of HT_.out (by kernel_rfl)) ?_
           refine one_ (i := 6) (N := some 20) #[true, true, true, true, true, true, true, false] rfl rfl (one_of HT_.out (by kernel_rfl)) (by decide) (fun K hK => ?_)
           refine goes_ Tryd.func109 (by kernel_rfl) rfl #[.int .i64 ((rd_T149 l0_3 x9_1).f0), .int .i64 0, .int .i64 (wrap64 (t560 - 1))] (by rfl) rfl rfl (by (try simp only [List.map_toArray, List.map_cons, List.map_nil]); first | done | rfl | (simp only [List.length_drop, List.length_take]; rfl)) ?_
           with_reducible refine (impl_inRange.calls ((rd_T149 l0_3 x9_1).f0) 0 (wrap64 (t560 - 1)) true _ A8.out).mono ?_
           rintro e w' ⟨rfl, ⟨nd, rfl⟩⟩
           refine ⟨_, rfl, ?_⟩
           refine hK.out _ _ ⟨(blk_cell BK559.out 0).trans rfl, (blk_cell BK559.out 1).trans rfl, (blk_cell BK559.out 2).trans rfl, (blk_cell BK557.out 0).trans rfl, (blk_cell BK557.out 1).trans rfl, (blk_cell BK557.out 2).trans rfl, (blk_cell BK557.out 3).trans rfl, (blk_cell BK557.out 4).trans rfl⟩ (fun hHeld => ?_)
           clear hK K
           refine norm_ (a' := ?_) ?_ ?_
           rotate_left
           ·show Act.put _ (some 20) _ = _
            simp only [Act.put, List.setIfInBounds_toArray, List.set_cons_zero, List.set_cons_succ, i64_w, i32_w]
            rfl
           refine pureS (i := 7) (N := some 21) (any_of HT_.out (by kernel_rfl)) ?_
           refine done_ (done_of HT_.out (by kernel_rfl)) ?_
           try go_wp2
           (try ((repeat rw [World.drewN_drewN w56]); (first | generalize hq_ : World.drewN w56 _ = w56 | (rw [drewN_self w56]; generalize hq_ : World.drewN w56 _ = w56)); have n0_ : Aside0 (w56.heap[gb557]? = some (.cells #[.slice A0_0 l0_0.length c0_0, .slice A0_1 l0_1.length c0_1, .slice A0_2 l0_2.length c0_2, .slice (some ad558) l0_3.length c0_3, .slice A0_4 l0_4.length c0_4] 65 (0, 0))) := ⟨by rw [← hq_]; exact (bP BK557.out)⟩; have n1_ : Aside0 (w56.heap[gb559]? = some (.cells #[.int .i64 ((rd_T149 l0_3 x9_1).f0), .slice A558_1 ((rd_T149 l0_3 x9_1).f1).length c558_1, .slice A558_2 ((rd_T149 l0_3 x9_1).f2).length c558_2] 149 (0, 0))) := ⟨by rw [← hq_]; exact (bP BK559.out)⟩; have n2_ : Aside0 (Below w.heap.size w w56) := ⟨by rw [← hq_]; exact (bW)⟩; clear BK557 BK559 HB hq_; have BK557 := n0_; have BK559 := n1_; have HB := n2_; clear n0_ n1_ n2_))
           have n0_ := Aside0.mk (blk_drew BK557.out)
           have n1_ := Aside0.mk (blk_drew BK559.out)
           have n2_ := Aside0.mk (below_drew1 HB.out)
           clear BK557
           clear BK559
           clear HB
           have BK557 := n0_
           have BK559 := n1_
           have HB := n2_
           clear n0_ n1_ n2_
           have p562 : 0 ≤ (((rd_T149 l0_3 x9_1).f0) : Int) := ofD
           have q562 : ((rd_T149 l0_3 x9_1).f0) < (l0_0.length : Int) := ofD
           obtain ⟨ad562, e562, hx562_0⟩ := Kd.at_int HR0_0.out ((rd_T149 l0_3 x9_1).f0) p562 q562
           have hw562_0 := hx562_0
           cases e562
           replace hx562_0 := (HB.out.cell (World.block_lt_of_cell? w _ hx562_0)).trans hx562_0
           replace p562 := eq_true p562
           replace q562 := eq_true q562
           refine start_ (n := 10) (S := fun w' => w'.cell? ⟨gb557, 0, none⟩ = some (.slice (some ad562) l0_0.length c0_0) ∧ w'.cell? ⟨gb557, 1, none⟩ = some (.slice A0_1 l0_1.length c0_1) ∧ w'.cell? ⟨gb557, 2, none⟩ = some (.slice A0_2 l0_2.length c0_2) ∧ w'.cell? ⟨gb557, 3, none⟩ = some (.slice (some ad558) l0_3.length c0_3) ∧ w'.cell? ⟨gb557, 4, none⟩ = some (.slice A0_4 l0_4.length c0_4) ∧ w'.cell? ⟨gb559, 0, none⟩ = some (.int .i64 ((rd_T149 l0_3 x9_1).f0)) ∧ w'.cell? ⟨gb559, 1, none⟩ = some (.slice A558_1 ((rd_T149 l0_3 x9_1).f1).length c558_1) ∧ w'.cell? ⟨gb559, 2, none⟩ = some (.slice A558_2 ((rd_T149 l0_3 x9_1).f2).length c558_2) ∧ w'.cell? (ad562.add (((rd_T149 l0_3 x9_1).f0)).toNat) = some (.int .i64 (rd l0_0 ((rd_T149 l0_3 x9_1).f0)))) (ds := []) #[false, false, false, false, false, false, false, false, false, false] (by kernel_rfl) rfl rfl ⟨(blk_cell BK557.out 0).trans rfl, (blk_cell BK557.out 1).trans rfl, (blk_cell BK557.out 2).trans rfl, (blk_cell BK557.out 3).trans rfl, (blk_cell BK557.out 4).trans rfl, (blk_cell BK559.out 0).trans rfl, (blk_cell BK559.out 1).trans rfl, (blk_cell BK559.out 2).trans rfl, ((HB.out.cell (World.block_lt_of_cell? w _ hw562_0)).trans hw562_0)⟩ (fun hHeld => ?_); refine with_tabW impl_goodJoints.tab6 impl_goodJoints.bits6 (fun HT_ HW_ => ?_)
           generalize w56.drew = w57 at BK557 BK559 HB hx562_0 hHeld ⊢
           refine pureS (i := 0) (N := some 22) (any_of HT_.out (by kernel_rfl)) ?_
           refine pureS (i := 2) (N := some 24) (any_of HT_.out (by kernel_rfl)) ?_
           refine pureS (i := 4) (N := some 26) (any_of HT_.out (by kernel_rfl)) ?_
           refine takeS (i := 1) (N := some 23) (take_ofW HT_.out HW_.out (by kernel_rfl)) hHeld ?_
           refine takeS (i := 3) (N := some 25) (take_ofW HT_.out HW_.out (by kernel_rfl)) hHeld ?_
           refine takeS (i := 5) (N := some 27) (take_ofW HT_.out HW_.out (by kernel_rfl)) hHeld ?_
           refine pureS (i := 6) (N := some 28) (any_of HT_.out (by kernel_rfl)) ?_
           refine takeS (i := 7) (N := some 29) (take_ofW HT_.out HW_.out (by kernel_rfl)) hHeld ?_
           refine one_ (i := 8) (N := some 30) #[true, true, true, true, true, true, true, true, true, false] rfl rfl (one_of HT_.out (by kernel_rfl)) (by decide) (fun K hK => ?_)
           refine goes_ Tryd.func132 (by kernel_rfl) rfl #[.slice A0_1 l0_1.length c0_1, .int .i64 (rd l0_0 ((rd_T149 l0_3 x9_1).f0))] (by rfl) rfl rfl (by (try simp only [List.map_toArray, List.map_cons, List.map_nil]); first | done | rfl | (simp only [List.length_drop, List.length_take]; rfl)) ?_
           with_reducible refine (impl_locals.calls k1 _ _ l0_1 (rd l0_0 ((rd_T149 l0_3 x9_1).f0)) t563 _ ?side1 ?side2 A12.out (tabW HTab.out)).mono ?_
           (case side1 => exact cP (Kd.C_below HR0_1.out HB.out))
           (case side2 => exact HC0_1.out)
           rintro e w58 ⟨v564, rfl, ho0, hb⟩
           refine ⟨_, rfl, ?_⟩
           have n0_ := Aside0.mk (Kd.R_lower ho0 (below_size (bW)))
           have n1_ := Aside0.mk (blkB BK557.out hb)
           have n2_ := Aside0.mk (blkB BK559.out hb)
           have n3_ := Aside0.mk (below_step (bW) hb)
           clear BK557
           clear BK559
           clear HB
           have HO565 := n0_
           have BK557 := n1_
           have BK559 := n2_
           have HB := n3_
           clear n0_ n1_ n2_ n3_
           (try clear hb)
           (try clear hb2)
           (try clear hk)
           (try clear hi)
           (try clear ho0)
           refine hK.out _ _ ⟨(blk_cell BK557.out 0).trans rfl, (blk_cell BK557.out 1).trans rfl, (blk_cell BK557.out 2).trans rfl, (blk_cell BK557.out 3).trans rfl, (blk_cell BK557.out 4).trans rfl, (blk_cell BK559.out 0).trans rfl, (blk_cell BK559.out 1).trans rfl, (blk_cell BK559.out 2).trans rfl, ((HB.out.cell (World.block_lt_of_cell? w _ hw562_0)).trans hw562_0)⟩ (fun hHeld => ?_)
           clear hK K
           refine norm_ (a' := ?_) ?_ ?_
           rotate_left
           ·show Act.put _ (some 30) _ = _
            simp only [Act.put, List.setIfInBounds_toArray, List.set_cons_zero, List.set_cons_succ, i64_w, i32_w]
            rfl
           refine pureS (i := 9) (N := some 5) (any_of HT_.out (by kernel_rfl)) ?_
           refine done_ (done_of HT_.out (by kernel_rfl)) ?_
           try go_wp2
           have n0_ := Aside0.mk (Kd.R_drew HO565.out)
           have n1_ := Aside0.mk (blk_drew BK557.out)
           have n2_ := Aside0.mk (blk_drew BK559.out)
           have n3_ := Aside0.mk (below_drew1 HB.out)
           clear HO565
           clear BK557
           clear BK559
           clear HB
           have HO565 := n0_
           have BK557 := n1_
           have BK559 := n2_
           have HB := n3_
           clear n0_ n1_ n2_ n3_
           obtain ⟨Ao60, co60, eo60⟩ := Kd.R_slice HO565.out
           (first | subst eo60 | (injection eo60 with f1_ f2_ f3_; have f4_ := f1_.symm; have f5_ := f3_.symm; clear f1_ f2_ f3_; subst f4_; subst f5_))
           refine start_ (n := 27) (S := fun w' => w'.cell? ⟨gb559, 0, none⟩ = some (.int .i64 ((rd_T149 l0_3 x9_1).f0)) ∧ w'.cell? ⟨gb559, 1, none⟩ = some (.slice A558_1 ((rd_T149 l0_3 x9_1).f1).length c558_1) ∧ w'.cell? ⟨gb559, 2, none⟩ = some (.slice A558_2 ((rd_T149 l0_3 x9_1).f2).length c558_2)) (ds := []) #[false, false, false, false, false, false, false, false, false, false, false, false, false, false, false, false, false, false, false, false, false, false, false, false, false, false, false] (by kernel_rfl) rfl rfl ⟨(blk_cell BK559.out 0).trans rfl, (blk_cell BK559.out 1).trans rfl, (blk_cell BK559.out 2).trans rfl⟩ (fun hHeld => ?_); refine with_tabW impl_goodJoints.tab7 impl_goodJoints.bits7 (fun HT_ HW_ => ?_)
           generalize w58.drew = w59 at HO565 BK557 BK559 HB hHeld ⊢
           refine pureS (i := 0) (N := some 31) (any_of HT_.out (by kernel_rfl)) ?_
           refine pureS (i := 1) (N := some 32) (any_of HT_.out (by kernel_rfl)) ?_
           refine takeS (i := 2) (N := some 33) (take_ofW HT_.out HW_.out (by kernel_rfl)) hHeld ?_
           refine one_ (i := 3) (N := some 34) #[true, true, true, true, false, false, false, false, false, false, false, false, false, false, false, false, false, false, false, false, false, false, false, false, false, false, false] rfl rfl (one_of HT_.out (by kernel_rfl)) (by decide) (fun K hK => ?_)
           refine goes_ Tryd.func82 (by kernel_rfl) rfl #[.slice Ao60 t563.length co60, .slice A558_1 ((rd_T149 l0_3 x9_1).f1).length c558_1] (by rfl) rfl rfl (by (try simp only [List.map_toArray, List.map_cons, List.map_nil]); first | done | rfl | (simp only [List.length_drop, List.length_take]; rfl)) ?_
           with_reducible refine (impl_isGlobal.calls k1 _ _ t563 _ _ ((rd_T149 l0_3 x9_1).f1) true _ ?side1 ?side2 ?side3 ?side4 A13.out).mono ?_
           (case side1 => exact cP ((Kd.R_reads' HO565.out).2.2))
           (case side2 => exact (Kd.R_reads' HO565.out).2.1)
           (case side3 => exact cP (Kd.C_below HR558_1.out HB.out))
           (case side4 => exact HC558_1.out)
           rintro e w' ⟨rfl, ⟨nd, rfl⟩⟩
           refine ⟨_, rfl, ?_⟩
           refine hK.out _ _ ⟨(blk_cell BK559.out 0).trans rfl, (blk_cell BK559.out 1).trans rfl, (blk_cell BK559.out 2).trans rfl⟩ (fun hHeld => ?_)
           clear hK K
           refine norm_ (a' := ?_) ?_ ?_
           rotate_left
           ·show Act.put _ (some 34) _ = _
            simp only [Act.put, List.setIfInBounds_toArray, List.set_cons_zero, List.set_cons_succ, i64_w, i32_w]
            rfl
           refine pureS (i := 4) (N := some 35) (any_of HT_.out (by kernel_rfl)) ?_
           refine pureS (i := 5) (N := some 36) (any_of HT_.out (by kernel_rfl)) ?_
           refine pureS (i := 6) (N := some 37) (any_of HT_.out (by kernel_rfl)) ?_
           refine pureS (i := 7) (N := some 38) (any_of HT_.out (by kernel_rfl)) ?_
           refine takeS (i := 8) (N := some 39) (take_ofW HT_.out HW_.out (by kernel_rfl)) hHeld ?_
           refine one_ (i := 9) (N := some 40) #[true, true, true, true, true, true, true, true, true, true, false, false, false, false, false, false, false, false, false, false, false, false, false, false, false, false, false] rfl rfl (one_of HT_.out (by kernel_rfl)) (by decide) (fun K hK => ?_)
           refine goes_ Tryd.func82 (by kernel_rfl) rfl #[.slice Ao60 t563.length co60, .slice A558_2 ((rd_T149 l0_3 x9_1).f2).length c558_2] (by rfl) rfl rfl (by (try simp only [List.map_toArray, List.map_cons, List.map_nil]); first | done | rfl | (simp only [List.length_drop, List.length_take]; rfl)) ?_
           with_reducible refine (impl_isGlobal.calls k1 _ _ t563 _ _ ((rd_T149 l0_3 x9_1).f2) false _ ?side1 ?side2 ?side3 ?side4 A15.out).mono ?_
           (case side1 => exact cP ((Kd.R_reads' HO565.out).2.2))
           (case side2 => exact (Kd.R_reads' HO565.out).2.1)
           (case side3 => exact cP (Kd.C_below HR558_2.out (bW)))
           (case side4 => exact HC558_2.out)
           rintro e w' ⟨rfl, ⟨nd, rfl⟩⟩
           refine ⟨_, rfl, ?_⟩
           refine hK.out _ _ ⟨(blk_cell BK559.out 0).trans rfl, (blk_cell BK559.out 1).trans rfl, (blk_cell BK559.out 2).trans rfl⟩ (fun hHeld => ?_)
           clear hK K
           refine norm_ (a' := ?_) ?_ ?_
           rotate_left
           ·show Act.put _ (some 40) _ = _
            simp only [Act.put, List.setIfInBounds_toArray, List.set_cons_zero, List.set_cons_succ, i64_w, i32_w]
            rfl
           refine pureS (i := 10) (N := some 41) (any_of HT_.out (by kernel_rfl)) ?_
           refine pureS (i := 11) (N := some 42) (any_of HT_.out (by kernel_rfl)) ?_
           refine pureS (i := 12) (N := some 43) (any_of HT_.out (by kernel_rfl)) ?_
           refine pureU (i := 13) (N := some 44) (any_of HT_.out (by kernel_rfl)) ?_
           refine pureU (i := 14) (N := some 45) (any_of HT_.out (by kernel_rfl)) ?_
           refine pureU (i := 15) (N := some 46) (any_of HT_.out (by kernel_rfl)) ?_
           refine pureU (i := 16) (N := some 47) (any_of HT_.out (by kernel_rfl)) ?_
           refine pureU (i := 17) (N := some 48) (any_of HT_.out (by kernel_rfl)) ?_
           refine pureU (i := 18) (N := some 49) (any_of HT_.out (by kernel_rfl)) ?_
           refine pureU (i := 19) (N := some 50) (any_of HT_.out (by kernel_rfl)) ?_
           refine pureU (i := 20) (N := some 51) (any_of HT_.out (by kernel_rfl)) ?_
           refine pureU (i := 21) (N := some 52) (any_of HT_.out (by kernel_rfl)) ?_
           refine pureU (i := 22) (N := some 53) (any_of HT_.out (by kernel_rfl)) ?_
           refine pureU (i := 23) (N := some 54) (any_of HT_.out (by kernel_rfl)) ?_
           refine pureU (i := 24) (N := some 55) (any_of HT_.out (by kernel_rfl)) ?_
           refine pureU (i := 25) (N := some 56) (any_of HT_.out (by kernel_rfl)) ?_
           refine pureS (i := 26) (N := some 57) (any_of HT_.out (by kernel_rfl)) ?_
           refine done_ (done_of HT_.out (by kernel_rfl)) ?_
           try go_wp2
           go_ret
           exact ⟨eW, bW⟩
         ·replace c14 := Bool.eq_false_iff.mpr c14
          subst c14
          have H1 : (some false) = some r := by rw [if_neg (show ¬ (false = true) by decide)] at H; exact H
          clear H
          have H := H1
          clear H1
          obtain rfl := Option.some.inj H
          have p558 : 0 ≤ (x9_1 : Int) := ofD
          have q558 : x9_1 < (l0_3.length : Int) := ofD
          obtain ⟨ad558, A558_1, c558_1, A558_2, c558_2, e558, hx558_0, hx558_1, hx558_2, hl558_1, hi558_1, hl558_2, hi558_2⟩ := at_T149 HR0_3.out x9_1 p558 q558
          cases e558
          replace hx558_0 := (HB.out.cell (World.block_lt_of_cell? w _ hx558_0)).trans hx558_0
          replace hx558_1 := (HB.out.cell (World.block_lt_of_cell? w _ hx558_1)).trans hx558_1
          replace hx558_2 := (HB.out.cell (World.block_lt_of_cell? w _ hx558_2)).trans hx558_2
          have HR558_1 := Aside0.mk hi558_1
          have HC558_1 := Aside0.mk hl558_1
          clear hi558_1 hl558_1
          have HR558_2 := Aside0.mk hi558_2
          have HC558_2 := Aside0.mk hl558_2
          clear hi558_2 hl558_2
          replace p558 := eq_true p558
          replace q558 := eq_true q558
          try go_wp2_with (first | ((with_reducible refine gate_dst (N := 4) rfl ?_); refine boxS (N := 4) (cs := #[.int .i64 0, .slice none 0 0, .slice none 0 0]) (t := 149) ?_; intro gb559 hg w61 hbox hb; have n0_ := Aside0.mk (blkB BK557.out hb); have n1_ := Aside0.mk (below_step (bW) hb); have n2_ := Aside0.mk (hbox); have n3_ := geW (w := w) hg; have n4_ := geW (w := w) hg; have n5_ := Aside0.mk ((by rw [hg]; exact Nat.ne_of_lt (blk_lt (g := gb557) (o := .cells #[.slice A0_0 l0_0.length c0_0, .slice A0_1 l0_1.length c0_1, .slice A0_2 l0_2.length c0_2, .slice (some ad558) l0_3.length c0_3, .slice A0_4 l0_4.length c0_4] 65 (0, 0)) (bP BK557.out)) : gb557 ≠ gb559)); have n6_ := Aside0.mk ((by rw [hg]; exact Nat.ne_of_gt (blk_lt (g := gb557) (o := .cells #[.slice A0_0 l0_0.length c0_0, .slice A0_1 l0_1.length c0_1, .slice A0_2 l0_2.length c0_2, .slice (some ad558) l0_3.length c0_3, .slice A0_4 l0_4.length c0_4] 65 (0, 0)) (bP BK557.out)) : gb559 ≠ gb557)); clear BK557; clear HB; have BK557 := n0_; have HB := n1_; have BK559 := n2_; have GW559 := n3_; have GE559 := n4_; have NB557_559 := n5_; have NB559_557 := n6_; clear n0_ n1_ n2_ n3_ n4_ n5_ n6_; clear hb hbox hg; have hnb62 := NB559_557.out; have hnc62 := NB557_559.out; obtain ⟨hcz63_0, hcz63_1, hcz63_2⟩ := cells3 BK559.out; obtain ⟨hfz63_0, hfz63_1, hfz63_2⟩ := frz3 BK559.out))
          have n0_ : Aside0 ((((w61.setCell ⟨gb559, 0, none⟩ (.int .i64 ((rd_T149 l0_3 x9_1).f0))).setCell ⟨gb559, 1, none⟩ (.slice A558_1 ((rd_T149 l0_3 x9_1).f1).length c558_1)).setCell ⟨gb559, 2, none⟩ (.slice A558_2 ((rd_T149 l0_3 x9_1).f2).length c558_2)).heap[gb557]? = some (.cells #[.slice A0_0 l0_0.length c0_0, .slice A0_1 l0_1.length c0_1, .slice A0_2 l0_2.length c0_2, .slice (some ad558) l0_3.length c0_3, .slice A0_4 l0_4.length c0_4] 65 (0, 0))) := ⟨by (with_reducible repeat (first | refine blk_drewN ?_ _ | refine blk_drew ?_ | refine blk_alloc ?_ _)); refine blk_far ?_ NB557_559.out _; (with_reducible repeat (first | refine blk_drewN ?_ _ | refine blk_drew ?_ | refine blk_alloc ?_ _)); refine blk_far ?_ NB557_559.out _; (with_reducible repeat (first | refine blk_drewN ?_ _ | refine blk_drew ?_ | refine blk_alloc ?_ _)); refine blk_far ?_ NB557_559.out _; exact bP BK557.out⟩
          have n1_ : Aside0 ((((w61.setCell ⟨gb559, 0, none⟩ (.int .i64 ((rd_T149 l0_3 x9_1).f0))).setCell ⟨gb559, 1, none⟩ (.slice A558_1 ((rd_T149 l0_3 x9_1).f1).length c558_1)).setCell ⟨gb559, 2, none⟩ (.slice A558_2 ((rd_T149 l0_3 x9_1).f2).length c558_2)).heap[gb559]? = some (.cells #[.int .i64 ((rd_T149 l0_3 x9_1).f0), .slice A558_1 ((rd_T149 l0_3 x9_1).f1).length c558_1, .slice A558_2 ((rd_T149 l0_3 x9_1).f2).length c558_2] 149 (0, 0))) := ⟨by (with_reducible repeat (first | refine blk_drewN ?_ _ | refine blk_drew ?_ | refine blk_alloc ?_ _)); refine blk_put (cs := #[.int .i64 ((rd_T149 l0_3 x9_1).f0), .slice A558_1 ((rd_T149 l0_3 x9_1).f1).length c558_1, .slice none 0 0]) ?_ 2 _ rfl; (with_reducible repeat (first | refine blk_drewN ?_ _ | refine blk_drew ?_ | refine blk_alloc ?_ _)); refine blk_put (cs := #[.int .i64 ((rd_T149 l0_3 x9_1).f0), .slice none 0 0, .slice none 0 0]) ?_ 1 _ rfl; (with_reducible repeat (first | refine blk_drewN ?_ _ | refine blk_drew ?_ | refine blk_alloc ?_ _)); refine blk_put (cs := #[.int .i64 0, .slice none 0 0, .slice none 0 0]) ?_ 0 _ rfl; exact bP BK559.out⟩
          have n2_ : Aside0 (Below w.heap.size w (((w61.setCell ⟨gb559, 0, none⟩ (.int .i64 ((rd_T149 l0_3 x9_1).f0))).setCell ⟨gb559, 1, none⟩ (.slice A558_1 ((rd_T149 l0_3 x9_1).f1).length c558_1)).setCell ⟨gb559, 2, none⟩ (.slice A558_2 ((rd_T149 l0_3 x9_1).f2).length c558_2))) := ⟨bW⟩
          (try clear BK557)
          (try clear BK559)
          (try clear HB)
          generalize (((w61.setCell ⟨gb559, 0, none⟩ (.int .i64 ((rd_T149 l0_3 x9_1).f0))).setCell ⟨gb559, 1, none⟩ (.slice A558_1 ((rd_T149 l0_3 x9_1).f1).length c558_1)).setCell ⟨gb559, 2, none⟩ (.slice A558_2 ((rd_T149 l0_3 x9_1).f2).length c558_2)) = w64 at n0_ n1_ n2_ ⊢
          have BK557 := n0_
          have BK559 := n1_
          have HB := n2_
          clear n0_ n1_ n2_
          have n0_ := Aside0.mk (blk_drew BK557.out)
          have n1_ := Aside0.mk (blk_drew BK559.out)
          have n2_ := Aside0.mk (below_drew1 HB.out)
          clear BK557
          clear BK559
          clear HB
          have BK557 := n0_
          have BK559 := n1_
          have HB := n2_
          clear n0_ n1_ n2_
          refine start_ (n := 8) (S := fun w' => w'.cell? ⟨gb559, 0, none⟩ = some (.int .i64 ((rd_T149 l0_3 x9_1).f0)) ∧ w'.cell? ⟨gb559, 1, none⟩ = some (.slice A558_1 ((rd_T149 l0_3 x9_1).f1).length c558_1) ∧ w'.cell? ⟨gb559, 2, none⟩ = some (.slice A558_2 ((rd_T149 l0_3 x9_1).f2).length c558_2) ∧ w'.cell? ⟨gb557, 0, none⟩ = some (.slice A0_0 l0_0.length c0_0) ∧ w'.cell? ⟨gb557, 1, none⟩ = some (.slice A0_1 l0_1.length c0_1) ∧ w'.cell? ⟨gb557, 2, none⟩ = some (.slice A0_2 l0_2.length c0_2) ∧ w'.cell? ⟨gb557, 3, none⟩ = some (.slice (some ad558) l0_3.length c0_3) ∧ w'.cell? ⟨gb557, 4, none⟩ = some (.slice A0_4 l0_4.length c0_4)) (ds := []) #[false, false, false, false, false, false, false, false] (by kernel_rfl) rfl rfl ⟨(blk_cell BK559.out 0).trans rfl, (blk_cell BK559.out 1).trans rfl, (blk_cell BK559.out 2).trans rfl, (blk_cell BK557.out 0).trans rfl, (blk_cell BK557.out 1).trans rfl, (blk_cell BK557.out 2).trans rfl, (blk_cell BK557.out 3).trans rfl, (blk_cell BK557.out 4).trans rfl⟩ (fun hHeld => ?_); refine with_tabW impl_goodJoints.tab4 impl_goodJoints.bits4 (fun HT_ HW_ => ?_)
          generalize w64.drew = w65 at BK557 BK559 HB hHeld ⊢
          refine pureS (i := 0) (N := some 14) (any_of HT_.out (by kernel_rfl)) ?_
          refine pureS (i := 2) (N := some 16) (any_of HT_.out (by kernel_rfl)) ?_
          refine takeS (i := 1) (N := some 15) (take_ofW HT_.out HW_.out (by kernel_rfl)) hHeld ?_
          refine takeS (i := 3) (N := some 17) (take_ofW HT_.out HW_.out (by kernel_rfl)) hHeld ?_
          refine one_ (i := 4) (N := some 18) #[true, true, true, true, true, false, false, false] rfl rfl (one_of HT_.out (by kernel_rfl)) (by decide) (fun K hK => ?_)
          refine goes_ Tryd.func80 (by kernel_rfl) rfl #[.slice A0_0 l0_0.length c0_0] (by rfl) rfl rfl (by (try simp only [List.map_toArray, List.map_cons, List.map_nil]); first | done | rfl | (simp only [List.length_drop, List.length_take]; rfl)) ?_
          with_reducible refine (impl_length_int64_80.calls _ _ l0_0 t560 _ ?side1 ?side2 A7.out).mono ?_
          (case side1 => exact cP (Kd.C_below HR0_0.out HB.out))
          (case side2 => exact HC0_0.out)
          rintro e w' ⟨rfl, ⟨nd, rfl⟩⟩
          refine ⟨_, rfl, ?_⟩
          refine hK.out _ _ ⟨(blk_cell BK559.out 0).trans rfl, (blk_cell BK559.out 1).trans rfl, (blk_cell BK559.out 2).trans rfl, (blk_cell BK557.out 0).trans rfl, (blk_cell BK557.out 1).trans rfl, (blk_cell BK557.out 2).trans rfl, (blk_cell BK557.out 3).trans rfl, (blk_cell BK557.out 4).trans rfl⟩ (fun hHeld => ?_)
          clear hK K
          refine norm_ (a' := ?_) ?_ ?_
          rotate_left
          ·show Act.put _ (some 18) _ = _
           simp only [Act.put, List.setIfInBounds_toArray, List.set_cons_zero, List.set_cons_succ, i64_w, i32_w]
           rfl
          refine pureS (i := 5) (N := some 19) (any_of HT_.out (by kernel_rfl)) ?_
          refine one_ (i := 6) (N := some 20) #[true, true, true, true, true, true, true, false] rfl rfl (one_of HT_.out (by kernel_rfl)) (by decide) (fun K hK => ?_)
          refine goes_ Tryd.func109 (by kernel_rfl) rfl #[.int .i64 ((rd_T149 l0_3 x9_1).f0), .int .i64 0, .int .i64 (wrap64 (t560 - 1))] (by rfl) rfl rfl (by (try simp only [List.map_toArray, List.map_cons, List.map_nil]); first | done | rfl | (simp only [List.length_drop, List.length_take]; rfl)) ?_
          with_reducible refine (impl_inRange.calls ((rd_T149 l0_3 x9_1).f0) 0 (wrap64 (t560 - 1)) true _ A8.out).mono ?_
          rintro e w' ⟨rfl, ⟨nd, rfl⟩⟩
          refine ⟨_, rfl, ?_⟩
          refine hK.out _ _ ⟨(blk_cell BK559.out 0).trans rfl, (blk_cell BK559.out 1).trans rfl, (blk_cell BK559.out 2).trans rfl, (blk_cell BK557.out 0).trans rfl, (blk_cell BK557.out 1).trans rfl, (blk_cell BK557.out 2).trans rfl, (blk_cell BK557.out 3).trans rfl, (blk_cell BK557.out 4).trans rfl⟩ (fun hHeld => ?_)
          clear hK K
          refine norm_ (a' := ?_) ?_ ?_
          rotate_left
          ·show Act.put _ (some 20) _ = _
           simp only [Act.put, List.setIfInBounds_toArray, List.set_cons_zero, List.set_cons_succ, i64_w, i32_w]
           rfl
          refine pureS (i := 7) (N := some 21) (any_of HT_.out (by kernel_rfl)) ?_
          refine done_ (done_of HT_.out (by kernel_rfl)) ?_
          try go_wp2
          (try ((repeat rw [World.drewN_drewN w65]); (first | generalize hq_ : World.drewN w65 _ = w65 | (rw [drewN_self w65]; generalize hq_ : World.drewN w65 _ = w65)); have n0_ : Aside0 (w65.heap[gb557]? = some (.cells #[.slice A0_0 l0_0.length c0_0, .slice A0_1 l0_1.length c0_1, .slice A0_2 l0_2.length c0_2, .slice (some ad558) l0_3.length c0_3, .slice A0_4 l0_4.length c0_4] 65 (0, 0))) := ⟨by rw [← hq_]; exact (bP BK557.out)⟩; have n1_ : Aside0 (w65.heap[gb559]? = some (.cells #[.int .i64 ((rd_T149 l0_3 x9_1).f0), .slice A558_1 ((rd_T149 l0_3 x9_1).f1).length c558_1, .slice A558_2 ((rd_T149 l0_3 x9_1).f2).length c558_2] 149 (0, 0))) := ⟨by rw [← hq_]; exact (bP BK559.out)⟩; have n2_ : Aside0 (Below w.heap.size w w65) := ⟨by rw [← hq_]; exact (bW)⟩; clear BK557 BK559 HB hq_; have BK557 := n0_; have BK559 := n1_; have HB := n2_; clear n0_ n1_ n2_))
          have n0_ := Aside0.mk (blk_drew BK557.out)
          have n1_ := Aside0.mk (blk_drew BK559.out)
          have n2_ := Aside0.mk (below_drew1 HB.out)
          clear BK557
          clear BK559
          clear HB
          have BK557 := n0_
          have BK559 := n1_
          have HB := n2_
          clear n0_ n1_ n2_
          have p562 : 0 ≤ (((rd_T149 l0_3 x9_1).f0) : Int) := ofD
          have q562 : ((rd_T149 l0_3 x9_1).f0) < (l0_0.length : Int) := ofD
          obtain ⟨ad562, e562, hx562_0⟩ := Kd.at_int HR0_0.out ((rd_T149 l0_3 x9_1).f0) p562 q562
          have hw562_0 := hx562_0
          cases e562
          replace hx562_0 := (HB.out.cell (World.block_lt_of_cell? w _ hx562_0)).trans hx562_0
          replace p562 := eq_true p562
          replace q562 := eq_true q562
          refine start_ (n := 10) (S := fun w' => w'.cell? ⟨gb557, 0, none⟩ = some (.slice (some ad562) l0_0.length c0_0) ∧ w'.cell? ⟨gb557, 1, none⟩ = some (.slice A0_1 l0_1.length c0_1) ∧ w'.cell? ⟨gb557, 2, none⟩ = some (.slice A0_2 l0_2.length c0_2) ∧ w'.cell? ⟨gb557, 3, none⟩ = some (.slice (some ad558) l0_3.length c0_3) ∧ w'.cell? ⟨gb557, 4, none⟩ = some (.slice A0_4 l0_4.length c0_4) ∧ w'.cell? ⟨gb559, 0, none⟩ = some (.int .i64 ((rd_T149 l0_3 x9_1).f0)) ∧ w'.cell? ⟨gb559, 1, none⟩ = some (.slice A558_1 ((rd_T149 l0_3 x9_1).f1).length c558_1) ∧ w'.cell? ⟨gb559, 2, none⟩ = some (.slice A558_2 ((rd_T149 l0_3 x9_1).f2).length c558_2) ∧ w'.cell? (ad562.add (((rd_T149 l0_3 x9_1).f0)).toNat) = some (.int .i64 (rd l0_0 ((rd_T149 l0_3 x9_1).f0)))) (ds := []) #[false, false, false, false, false, false, false, false, false, false] (by kernel_rfl) rfl rfl ⟨(blk_cell BK557.out 0).trans rfl, (blk_cell BK557.out 1).trans rfl, (blk_cell BK557.out 2).trans rfl, (blk_cell BK557.out 3).trans rfl, (blk_cell BK557.out 4).trans rfl, (blk_cell BK559.out 0).trans rfl, (blk_cell BK559.out 1).trans rfl, (blk_cell BK559.out 2).trans rfl, ((HB.out.cell (World.block_lt_of_cell? w _ hw562_0)).trans hw562_0)⟩ (fun hHeld => ?_); refine with_tabW impl_goodJoints.tab6 impl_goodJoints.bits6 (fun HT_ HW_ => ?_)
          generalize w65.drew = w66 at BK557 BK559 HB hx562_0 hHeld ⊢
          refine pureS (i := 0) (N := some 22) (any_of HT_.out (by kernel_rfl)) ?_
          refine pureS (i := 2) (N := some 24) (any_of HT_.out (by kernel_rfl)) ?_
          refine pureS (i := 4) (N := some 26) (any_of HT_.out (by kernel_rfl)) ?_
          refine takeS (i := 1) (N := some 23) (take_ofW HT_.out HW_.out (by kernel_rfl)) hHeld ?_
          refine takeS (i := 3) (N := some 25) (take_ofW HT_.out HW_.out (by kernel_rfl)) hHeld ?_
          refine takeS (i := 5) (N := some 27) (take_ofW HT_.out HW_.out (by kernel_rfl)) hHeld ?_
          refine pureS (i := 6) (N := some 28) (any_of HT_.out (by kernel_rfl)) ?_
          refine takeS (i := 7) (N := some 29) (take_ofW HT_.out HW_.out (by kernel_rfl)) hHeld ?_
          refine one_ (i := 8) (N := some 30) #[true, true, true, true, true, true, true, true, true, false] rfl rfl (one_of HT_.out (by kernel_rfl)) (by decide) (fun K hK => ?_)
          refine goes_ Tryd.func132 (by kernel_rfl) rfl #[.slice A0_1 l0_1.length c0_1, .int .i64 (rd l0_0 ((rd_T149 l0_3 x9_1).f0))] (by rfl) rfl rfl (by (try simp only [List.map_toArray, List.map_cons, List.map_nil]); first | done | rfl | (simp only [List.length_drop, List.length_take]; rfl)) ?_
          with_reducible refine (impl_locals.calls k1 _ _ l0_1 (rd l0_0 ((rd_T149 l0_3 x9_1).f0)) t563 _ ?side1 ?side2 A12.out (tabW HTab.out)).mono ?_
          (case side1 => exact cP (Kd.C_below HR0_1.out HB.out))
          (case side2 => exact HC0_1.out)
          rintro e w67 ⟨v564, rfl, ho0, hb⟩
          refine ⟨_, rfl, ?_⟩
          have n0_ := Aside0.mk (Kd.R_lower ho0 (below_size (bW)))
          have n1_ := Aside0.mk (blkB BK557.out hb)
          have n2_ := Aside0.mk (blkB BK559.out hb)
          have n3_ := Aside0.mk (below_step (bW) hb)
          clear BK557
          clear BK559
          clear HB
          have HO565 := n0_
          have BK557 := n1_
          have BK559 := n2_
          have HB := n3_
          clear n0_ n1_ n2_ n3_
          (try clear hb)
          (try clear hb2)
          (try clear hk)
          (try clear hi)
          (try clear ho0)
          refine hK.out _ _ ⟨(blk_cell BK557.out 0).trans rfl, (blk_cell BK557.out 1).trans rfl, (blk_cell BK557.out 2).trans rfl, (blk_cell BK557.out 3).trans rfl, (blk_cell BK557.out 4).trans rfl, (blk_cell BK559.out 0).trans rfl, (blk_cell BK559.out 1).trans rfl, (blk_cell BK559.out 2).trans rfl, ((HB.out.cell (World.block_lt_of_cell? w _ hw562_0)).trans hw562_0)⟩ (fun hHeld => ?_)
          clear hK K
          refine norm_ (a' := ?_) ?_ ?_
          rotate_left
          ·show Act.put _ (some 30) _ = _
           simp only [Act.put, List.setIfInBounds_toArray, List.set_cons_zero, List.set_cons_succ, i64_w, i32_w]
           rfl
          refine pureS (i := 9) (N := some 5) (any_of HT_.out (by kernel_rfl)) ?_
          refine done_ (done_of HT_.out (by kernel_rfl)) ?_
          try go_wp2
          have n0_ := Aside0.mk (Kd.R_drew HO565.out)
          have n1_ := Aside0.mk (blk_drew BK557.out)
          have n2_ := Aside0.mk (blk_drew BK559.out)
          have n3_ := Aside0.mk (below_drew1 HB.out)
          clear HO565
          clear BK557
          clear BK559
          clear HB
          have HO565 := n0_
          have BK557 := n1_
          have BK559 := n2_
          have HB := n3_
          clear n0_ n1_ n2_ n3_
          obtain ⟨Ao69, co69, eo69⟩ := Kd.R_slice HO565.out
          (first | subst eo69 | (injection eo69 with f1_ f2_ f3_; have f4_ := f1_.symm; have f5_ := f3_.symm; clear f1_ f2_ f3_; subst f4_; subst f5_))
          refine start_ (n := 27) (S := fun w' => w'.cell? ⟨gb559, 0, none⟩ = some (.int .i64 ((rd_T149 l0_3 x9_1).f0)) ∧ w'.cell? ⟨gb559, 1, none⟩ = some (.slice A558_1 ((rd_T149 l0_3 x9_1).f1).length c558_1) ∧ w'.cell? ⟨gb559, 2, none⟩ = some (.slice A558_2 ((rd_T149 l0_3 x9_1).f2).length c558_2)) (ds := []) #[false, false, false, false, false, false, false, false, false, false, false, false, false, false, false, false, false, false, false, false, false, false, false, false, false, false, false] (by kernel_rfl) rfl rfl ⟨(blk_cell BK559.out 0).trans rfl, (blk_cell BK559.out 1).trans rfl, (blk_cell BK559.out 2).trans rfl⟩ (fun hHeld => ?_); refine with_tabW impl_goodJoints.tab7 impl_goodJoints.bits7 (fun HT_ HW_ => ?_)
          generalize w67.drew = w68 at HO565 BK557 BK559 HB hHeld ⊢
          refine pureS (i := 0) (N := some 31) (any_of HT_.out (by kernel_rfl)) ?_
          refine pureS (i := 1) (N := some 32) (any_of HT_.out (by kernel_rfl)) ?_
          refine takeS (i := 2) (N := some 33) (take_ofW HT_.out HW_.out (by kernel_rfl)) hHeld ?_
          refine one_ (i := 3) (N := some 34) #[true, true, true, true, false, false, false, false, false, false, false, false, false, false, false, false, false, false, false, false, false, false, false, false, false, false, false] rfl rfl (one_of HT_.out (by kernel_rfl)) (by decide) (fun K hK => ?_)
          refine goes_ Tryd.func82 (by kernel_rfl) rfl #[.slice Ao69 t563.length co69, .slice A558_1 ((rd_T149 l0_3 x9_1).f1).length c558_1] (by rfl) rfl rfl (by (try simp only [List.map_toArray, List.map_cons, List.map_nil]); first | done | rfl | (simp only [List.length_drop, List.length_take]; rfl)) ?_
          with_reducible refine (impl_isGlobal.calls k1 _ _ t563 _ _ ((rd_T149 l0_3 x9_1).f1) false _ ?side1 ?side2 ?side3 ?side4 A13.out).mono ?_
          (case side1 => exact cP ((Kd.R_reads' HO565.out).2.2))
          (case side2 => exact (Kd.R_reads' HO565.out).2.1)
          (case side3 => exact cP (Kd.C_below HR558_1.out HB.out))
          (case side4 => exact HC558_1.out)
          rintro e w' ⟨rfl, ⟨nd, rfl⟩⟩
          refine ⟨_, rfl, ?_⟩
          refine hK.out _ _ ⟨(blk_cell BK559.out 0).trans rfl, (blk_cell BK559.out 1).trans rfl, (blk_cell BK559.out 2).trans rfl⟩ (fun hHeld => ?_)
          clear hK K
          refine norm_ (a' := ?_) ?_ ?_
          rotate_left
          ·show Act.put _ (some 34) _ = _
           simp only [Act.put, List.setIfInBounds_toArray, List.set_cons_zero, List.set_cons_succ, i64_w, i32_w]
           rfl
          refine pureS (i := 4) (N := some 35) (any_of HT_.out (by kernel_rfl)) ?_
          refine pureS (i := 5) (N := some 36) (any_of HT_.out (by kernel_rfl)) ?_
          refine pureU (i := 6) (N := some 37) (any_of HT_.out (by kernel_rfl)) ?_
          refine pureU (i := 7) (N := some 38) (any_of HT_.out (by kernel_rfl)) ?_
          refine pureU (i := 8) (N := some 39) (any_of HT_.out (by kernel_rfl)) ?_
          refine pureU (i := 9) (N := some 40) (any_of HT_.out (by kernel_rfl)) ?_
          refine pureU (i := 10) (N := some 41) (any_of HT_.out (by kernel_rfl)) ?_
          refine pureS (i := 11) (N := some 42) (any_of HT_.out (by kernel_rfl)) ?_
          refine pureS (i := 12) (N := some 43) (any_of HT_.out (by kernel_rfl)) ?_
          refine pureU (i := 13) (N := some 44) (any_of HT_.out (by kernel_rfl)) ?_
          refine pureU (i := 14) (N := some 45) (any_of HT_.out (by kernel_rfl)) ?_
          refine pureU (i := 15) (N := some 46) (any_of HT_.out (by kernel_rfl)) ?_
          refine pureU (i := 16) (N := some 47) (any_of HT_.out (by kernel_rfl)) ?_
          refine pureU (i := 17) (N := some 48) (any_of HT_.out (by kernel_rfl)) ?_
          refine pureU (i := 18) (N := some 49) (any_of HT_.out (by kernel_rfl)) ?_
          refine pureU (i := 19) (N := some 50) (any_of HT_.out (by kernel_rfl)) ?_
          refine pureU (i := 20) (N := some 51) (any_of HT_.out (by kernel_rfl)) ?_
          refine pureU (i := 21) (N := some 52) (any_of HT_.out (by kernel_rfl)) ?_
          refine pureU (i := 22) (N := some 53) (any_of HT_.out (by kernel_rfl)) ?_
          refine pureU (i := 23) (N := some 54) (any_of HT_.out (by kernel_rfl)) ?_
          refine pureU (i := 24) (N := some 55) (any_of HT_.out (by kernel_rfl)) ?_
          refine pureU (i := 25) (N := some 56) (any_of HT_.out (by kernel_rfl)) ?_
          refine pureS (i := 26) (N := some 57) (any_of HT_.out (by kernel_rfl)) ?_
          refine done_ (done_of HT_.out (by kernel_rfl)) ?_
          try go_wp2
          go_ret
          exact ⟨eW, bW⟩
        ·rw [if_neg c11] at H
         exact absurd H (by simp)
       ·rw [if_neg c10] at H
        exact absurd H (by simp)
      ·replace c9 := Bool.eq_false_iff.mpr c9
       subst c9
       have H1 : (some false) = some r := by rw [if_neg (show ¬ (false = true) by decide)] at H; exact H
       clear H
       have H := H1
       clear H1
       obtain rfl := Option.some.inj H
       have p558 : 0 ≤ (x9_1 : Int) := ofD
       have q558 : x9_1 < (l0_3.length : Int) := ofD
       obtain ⟨ad558, A558_1, c558_1, A558_2, c558_2, e558, hx558_0, hx558_1, hx558_2, hl558_1, hi558_1, hl558_2, hi558_2⟩ := at_T149 HR0_3.out x9_1 p558 q558
       cases e558
       replace hx558_0 := (HB.out.cell (World.block_lt_of_cell? w _ hx558_0)).trans hx558_0
       replace hx558_1 := (HB.out.cell (World.block_lt_of_cell? w _ hx558_1)).trans hx558_1
       replace hx558_2 := (HB.out.cell (World.block_lt_of_cell? w _ hx558_2)).trans hx558_2
       have HR558_1 := Aside0.mk hi558_1
       have HC558_1 := Aside0.mk hl558_1
       clear hi558_1 hl558_1
       have HR558_2 := Aside0.mk hi558_2
       have HC558_2 := Aside0.mk hl558_2
       clear hi558_2 hl558_2
       replace p558 := eq_true p558
       replace q558 := eq_true q558
       try go_wp2_with (first | ((with_reducible refine gate_dst (N := 4) rfl ?_); refine boxS (N := 4) (cs := #[.int .i64 0, .slice none 0 0, .slice none 0 0]) (t := 149) ?_; intro gb559 hg w70 hbox hb; have n0_ := Aside0.mk (blkB BK557.out hb); have n1_ := Aside0.mk (below_step (bW) hb); have n2_ := Aside0.mk (hbox); have n3_ := geW (w := w) hg; have n4_ := geW (w := w) hg; have n5_ := Aside0.mk ((by rw [hg]; exact Nat.ne_of_lt (blk_lt (g := gb557) (o := .cells #[.slice A0_0 l0_0.length c0_0, .slice A0_1 l0_1.length c0_1, .slice A0_2 l0_2.length c0_2, .slice (some ad558) l0_3.length c0_3, .slice A0_4 l0_4.length c0_4] 65 (0, 0)) (bP BK557.out)) : gb557 ≠ gb559)); have n6_ := Aside0.mk ((by rw [hg]; exact Nat.ne_of_gt (blk_lt (g := gb557) (o := .cells #[.slice A0_0 l0_0.length c0_0, .slice A0_1 l0_1.length c0_1, .slice A0_2 l0_2.length c0_2, .slice (some ad558) l0_3.length c0_3, .slice A0_4 l0_4.length c0_4] 65 (0, 0)) (bP BK557.out)) : gb559 ≠ gb557)); clear BK557; clear HB; have BK557 := n0_; have HB := n1_; have BK559 := n2_; have GW559 := n3_; have GE559 := n4_; have NB557_559 := n5_; have NB559_557 := n6_; clear n0_ n1_ n2_ n3_ n4_ n5_ n6_; clear hb hbox hg; have hnb71 := NB559_557.out; have hnc71 := NB557_559.out; obtain ⟨hcz72_0, hcz72_1, hcz72_2⟩ := cells3 BK559.out; obtain ⟨hfz72_0, hfz72_1, hfz72_2⟩ := frz3 BK559.out))
       have n0_ : Aside0 ((((w70.setCell ⟨gb559, 0, none⟩ (.int .i64 ((rd_T149 l0_3 x9_1).f0))).setCell ⟨gb559, 1, none⟩ (.slice A558_1 ((rd_T149 l0_3 x9_1).f1).length c558_1)).setCell ⟨gb559, 2, none⟩ (.slice A558_2 ((rd_T149 l0_3 x9_1).f2).length c558_2)).heap[gb557]? = some (.cells #[.slice A0_0 l0_0.length c0_0, .slice A0_1 l0_1.length c0_1, .slice A0_2 l0_2.length c0_2, .slice (some ad558) l0_3.length c0_3, .slice A0_4 l0_4.length c0_4] 65 (0, 0))) := ⟨by (with_reducible repeat (first | refine blk_drewN ?_ _ | refine blk_drew ?_ | refine blk_alloc ?_ _)); refine blk_far ?_ NB557_559.out _; (with_reducible repeat (first | refine blk_drewN ?_ _ | refine blk_drew ?_ | refine blk_alloc ?_ _)); refine blk_far ?_ NB557_559.out _; (with_reducible repeat (first | refine blk_drewN ?_ _ | refine blk_drew ?_ | refine blk_alloc ?_ _)); refine blk_far ?_ NB557_559.out _; exact bP BK557.out⟩
       have n1_ : Aside0 ((((w70.setCell ⟨gb559, 0, none⟩ (.int .i64 ((rd_T149 l0_3 x9_1).f0))).setCell ⟨gb559, 1, none⟩ (.slice A558_1 ((rd_T149 l0_3 x9_1).f1).length c558_1)).setCell ⟨gb559, 2, none⟩ (.slice A558_2 ((rd_T149 l0_3 x9_1).f2).length c558_2)).heap[gb559]? = some (.cells #[.int .i64 ((rd_T149 l0_3 x9_1).f0), .slice A558_1 ((rd_T149 l0_3 x9_1).f1).length c558_1, .slice A558_2 ((rd_T149 l0_3 x9_1).f2).length c558_2] 149 (0, 0))) := ⟨by (with_reducible repeat (first | refine blk_drewN ?_ _ | refine blk_drew ?_ | refine blk_alloc ?_ _)); refine blk_put (cs := #[.int .i64 ((rd_T149 l0_3 x9_1).f0), .slice A558_1 ((rd_T149 l0_3 x9_1).f1).length c558_1, .slice none 0 0]) ?_ 2 _ rfl; (with_reducible repeat (first | refine blk_drewN ?_ _ | refine blk_drew ?_ | refine blk_alloc ?_ _)); refine blk_put (cs := #[.int .i64 ((rd_T149 l0_3 x9_1).f0), .slice none 0 0, .slice none 0 0]) ?_ 1 _ rfl; (with_reducible repeat (first | refine blk_drewN ?_ _ | refine blk_drew ?_ | refine blk_alloc ?_ _)); refine blk_put (cs := #[.int .i64 0, .slice none 0 0, .slice none 0 0]) ?_ 0 _ rfl; exact bP BK559.out⟩
       have n2_ : Aside0 (Below w.heap.size w (((w70.setCell ⟨gb559, 0, none⟩ (.int .i64 ((rd_T149 l0_3 x9_1).f0))).setCell ⟨gb559, 1, none⟩ (.slice A558_1 ((rd_T149 l0_3 x9_1).f1).length c558_1)).setCell ⟨gb559, 2, none⟩ (.slice A558_2 ((rd_T149 l0_3 x9_1).f2).length c558_2))) := ⟨bW⟩
       (try clear BK557)
       (try clear BK559)
       (try clear HB)
       generalize (((w70.setCell ⟨gb559, 0, none⟩ (.int .i64 ((rd_T149 l0_3 x9_1).f0))).setCell ⟨gb559, 1, none⟩ (.slice A558_1 ((rd_T149 l0_3 x9_1).f1).length c558_1)).setCell ⟨gb559, 2, none⟩ (.slice A558_2 ((rd_T149 l0_3 x9_1).f2).length c558_2)) = w73 at n0_ n1_ n2_ ⊢
       have BK557 := n0_
       have BK559 := n1_
       have HB := n2_
       clear n0_ n1_ n2_
       have n0_ := Aside0.mk (blk_drew BK557.out)
       have n1_ := Aside0.mk (blk_drew BK559.out)
       have n2_ := Aside0.mk (below_drew1 HB.out)
       clear BK557
       clear BK559
       clear HB
       have BK557 := n0_
       have BK559 := n1_
       have HB := n2_
       clear n0_ n1_ n2_
       refine start_ (n := 8) (S := fun w' => w'.cell? ⟨gb559, 0, none⟩ = some (.int .i64 ((rd_T149 l0_3 x9_1).f0)) ∧ w'.cell? ⟨gb559, 1, none⟩ = some (.slice A558_1 ((rd_T149 l0_3 x9_1).f1).length c558_1) ∧ w'.cell? ⟨gb559, 2, none⟩ = some (.slice A558_2 ((rd_T149 l0_3 x9_1).f2).length c558_2) ∧ w'.cell? ⟨gb557, 0, none⟩ = some (.slice A0_0 l0_0.length c0_0) ∧ w'.cell? ⟨gb557, 1, none⟩ = some (.slice A0_1 l0_1.length c0_1) ∧ w'.cell? ⟨gb557, 2, none⟩ = some (.slice A0_2 l0_2.length c0_2) ∧ w'.cell? ⟨gb557, 3, none⟩ = some (.slice (some ad558) l0_3.length c0_3) ∧ w'.cell? ⟨gb557, 4, none⟩ = some (.slice A0_4 l0_4.length c0_4)) (ds := []) #[false, false, false, false, false, false, false, false] (by kernel_rfl) rfl rfl ⟨(blk_cell BK559.out 0).trans rfl, (blk_cell BK559.out 1).trans rfl, (blk_cell BK559.out 2).trans rfl, (blk_cell BK557.out 0).trans rfl, (blk_cell BK557.out 1).trans rfl, (blk_cell BK557.out 2).trans rfl, (blk_cell BK557.out 3).trans rfl, (blk_cell BK557.out 4).trans rfl⟩ (fun hHeld => ?_); refine with_tabW impl_goodJoints.tab4 impl_goodJoints.bits4 (fun HT_ HW_ => ?_)
       generalize w73.drew = w74 at BK557 BK559 HB hHeld ⊢
       refine pureS (i := 0) (N := some 14) (any_of HT_.out (by kernel_rfl)) ?_
       refine pureS (i := 2) (N := some 16) (any_of HT_.out (by kernel_rfl)) ?_
       refine takeS (i := 1) (N := some 15) (take_ofW HT_.out HW_.out (by kernel_rfl)) hHeld ?_
       refine takeS (i := 3) (N := some 17) (take_ofW HT_.out HW_.out (by kernel_rfl)) hHeld ?_
       refine one_ (i := 4) (N := some 18) #[true, true, true, true, true, false, false, false] rfl rfl (one_of HT_.out (by kernel_rfl)) (by decide) (fun K hK => ?_)
       refine goes_ Tryd.func80 (by kernel_rfl) rfl #[.slice A0_0 l0_0.length c0_0] (by rfl) rfl rfl (by (try simp only [List.map_toArray, List.map_cons, List.map_nil]); first | done | rfl | (simp only [List.length_drop, List.length_take]; rfl)) ?_
       with_reducible refine (impl_length_int64_80.calls _ _ l0_0 t560 _ ?side1 ?side2 A7.out).mono ?_
       (case side1 => exact cP (Kd.C_below HR0_0.out HB.out))
       (case side2 => exact HC0_0.out)
       rintro e w' ⟨rfl, ⟨nd, rfl⟩⟩
       refine ⟨_, rfl, ?_⟩
       refine hK.out _ _ ⟨(blk_cell BK559.out 0).trans rfl, (blk_cell BK559.out 1).trans rfl, (blk_cell BK559.out 2).trans rfl, (blk_cell BK557.out 0).trans rfl, (blk_cell BK557.out 1).trans rfl, (blk_cell BK557.out 2).trans rfl, (blk_cell BK557.out 3).trans rfl, (blk_cell BK557.out 4).trans rfl⟩ (fun hHeld => ?_)
       clear hK K
       refine norm_ (a' := ?_) ?_ ?_
       rotate_left
       ·show Act.put _ (some 18) _ = _
        simp only [Act.put, List.setIfInBounds_toArray, List.set_cons_zero, List.set_cons_succ, i64_w, i32_w]
        rfl
       refine pureS (i := 5) (N := some 19) (any_of HT_.out (by kernel_rfl)) ?_
       refine one_ (i := 6) (N := some 20) #[true, true, true, true, true, true, true, false] rfl rfl (one_of HT_.out (by kernel_rfl)) (by decide) (fun K hK => ?_)
       refine goes_ Tryd.func109 (by kernel_rfl) rfl #[.int .i64 ((rd_T149 l0_3 x9_1).f0), .int .i64 0, .int .i64 (wrap64 (t560 - 1))] (by rfl) rfl rfl (by (try simp only [List.map_toArray, List.map_cons, List.map_nil]); first | done | rfl | (simp only [List.length_drop, List.length_take]; rfl)) ?_
       with_reducible refine (impl_inRange.calls ((rd_T149 l0_3 x9_1).f0) 0 (wrap64 (t560 - 1)) false _ A8.out).mono ?_
       rintro e w' ⟨rfl, ⟨nd, rfl⟩⟩
       refine ⟨_, rfl, ?_⟩
       refine hK.out _ _ ⟨(blk_cell BK559.out 0).trans rfl, (blk_cell BK559.out 1).trans rfl, (blk_cell BK559.out 2).trans rfl, (blk_cell BK557.out 0).trans rfl, (blk_cell BK557.out 1).trans rfl, (blk_cell BK557.out 2).trans rfl, (blk_cell BK557.out 3).trans rfl, (blk_cell BK557.out 4).trans rfl⟩ (fun hHeld => ?_)
       clear hK K
       refine norm_ (a' := ?_) ?_ ?_
       rotate_left
       ·show Act.put _ (some 20) _ = _
        simp only [Act.put, List.setIfInBounds_toArray, List.set_cons_zero, List.set_cons_succ, i64_w, i32_w]
        rfl
       refine pureS (i := 7) (N := some 21) (any_of HT_.out (by kernel_rfl)) ?_
       refine done_ (done_of HT_.out (by kernel_rfl)) ?_
       try go_wp2
       go_ret
       exact ⟨eW, bW⟩
     ·rw [if_neg c6] at H
      exact absurd H (by simp)
    ·rw [if_neg c5] at H
     exact absurd H (by simp)
   ·rw [if_neg c4] at H
    have c4b0 : decide (x9_1 < (l0_3.length : Int)) = false := decide_eq_false c4
    clear c4
    obtain rfl := Option.some.inj H
    have hcz75_0 : wr.cell? ⟨gb557, 0, none⟩ = some (.slice A0_0 l0_0.length c0_0) := (blk_cell BK557.out 0).trans rfl
    have hcz75_1 : wr.cell? ⟨gb557, 1, none⟩ = some (.slice A0_1 l0_1.length c0_1) := (blk_cell BK557.out 1).trans rfl
    have hcz75_2 : wr.cell? ⟨gb557, 2, none⟩ = some (.slice A0_2 l0_2.length c0_2) := (blk_cell BK557.out 2).trans rfl
    have hcz75_3 : wr.cell? ⟨gb557, 3, none⟩ = some (.slice A0_3 l0_3.length c0_3) := (blk_cell BK557.out 3).trans rfl
    have hcz75_4 : wr.cell? ⟨gb557, 4, none⟩ = some (.slice A0_4 l0_4.length c0_4) := (blk_cell BK557.out 4).trans rfl
    have hfz75_0 := blk_frozen BK557.out 0
    have hfz75_1 := blk_frozen BK557.out 1
    have hfz75_2 := blk_frozen BK557.out 2
    have hfz75_3 := blk_frozen BK557.out 3
    have hfz75_4 := blk_frozen BK557.out 4
    go_wp2
    go_ret
    exact ⟨eW, bW⟩

end Go.Proofs.YthbaocejgjpfoaaDoor.P
end M0
