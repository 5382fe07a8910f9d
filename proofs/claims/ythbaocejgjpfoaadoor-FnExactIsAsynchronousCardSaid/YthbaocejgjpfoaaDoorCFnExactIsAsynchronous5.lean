import Derived.ArgAppend
import Derived.Below
import Derived.BigQuiet
import Derived.Deep.AppendLies
import Derived.Deep.CutBlock
import Derived.Deep.DeepCutAuto
import Derived.Deep.Draws
import Derived.Deep.LoopGhost
import Derived.Deep.OwnRows
import Derived.Deep.QuietTactic
import Derived.Deep.RegionHeld3
import Derived.KernelRfl
import Derived.Laws.BitsLemmas
import Derived.Laws.BytesArg
import Derived.Laws.IdiomCopy
import Derived.Laws.MakeOwn
import Derived.Laws.OwnMore
import Derived.Laws.Rows
import Derived.Laws.Slices
import Derived.Laws.StructEq
import Derived.Lib.AppendStr
import Derived.Lib.ConvBytes
import Derived.Lib.SliceRun
import Derived.Maps.AppendAt
import Derived.OrdersHeld
import Derived.OwnWalk
import Derived.RowKit
import Derived.RowKit3
import Derived.Shelf.Abstract
import Derived.Shelf.Spec.TrailingZeros
import Derived.Tactics
import Derived.Test.YthbaocejgjpfoaaDoorProg
import Derived.WalkKit
import Derived.WideLaws
import Derived.Test.YthbaocejgjpfoaaDoorCFnExactIsAsynchronous2
import Derived.Test.YthbaocejgjpfoaaDoorCFnExactIsAsynchronous4
section M0
namespace Go.Proofs.YthbaocejgjpfoaaDoor.P
open Go.RowKit Go.Proofs.YthbaocejgjpfoaaDoor.Sh Go.Proofs.YthbaocejgjpfoaaDoorW.PrintWords Go.Proofs.YthbaocejgjpfoaaDoorW.PrintLast Go.Proofs.YthbaocejgjpfoaaDoorW.PrintMore
attribute [local go_sem] max2_int min2_int max_two min_two max_three min_three max_four min_four   -- for this text's walks alone
set_option linter.unusedVariables false
set_option linter.unusedSimpArgs false

/-! ### spec_l14Joints: function 76 -/
mutual
def spec_l14Joints.l0 : Nat → Int → List Int → List Int → List Int → List (S149) → List (List Int) → Option (Bool)
 | 0, _, _, _, _, _, _ => none
 | k + 1, x3, x476000, x476001, x476002, x476003, x476004 => if x3 < (x476003.length : Int) then (if 0 ≤ x3 then ((spec_l01In.f ((rd_T149 x476003 x3).f0) 0 (wrap64 ((x476000.length : Int) - 1))).bind fun t478 => (if t478 = true then (if 0 ≤ ((rd_T149 x476003 x3).f0) then (if ((rd_T149 x476003 x3).f0) < (x476000.length : Int) then ((spec_l14Local.f k x476000 x476001 x476002 x476003 x476004 (rd x476000 ((rd_T149 x476003 x3).f0)) ((rd_T149 x476003 x3).f1)).bind fun t480 => (if t480 = true then ((spec_l14Local.f k x476000 x476001 x476002 x476003 x476004 (rd x476000 ((rd_T149 x476003 x3).f0)) ((rd_T149 x476003 x3).f2)).bind fun t482 => (spec_l14Joints.j1 k x3 (!t482) x476000 x476001 x476002 x476003 x476004 ((rd_T149 x476003 x3).f0) ((rd_T149 x476003 x3).f1) ((rd_T149 x476003 x3).f2))) else (spec_l14Joints.j1 k x3 true x476000 x476001 x476002 x476003 x476004 ((rd_T149 x476003 x3).f0) ((rd_T149 x476003 x3).f1) ((rd_T149 x476003 x3).f2)))) else (none)) else (none)) else (spec_l14Joints.j1 k x3 true x476000 x476001 x476002 x476003 x476004 ((rd_T149 x476003 x3).f0) ((rd_T149 x476003 x3).f1) ((rd_T149 x476003 x3).f2)))) else (none)) else (some (decide ((x476003.length : Int) ≤ 64)))
def spec_l14Joints.j1 : Nat → Int → Bool → List Int → List Int → List Int → List (S149) → List (List Int) → Int → List Int → List Int → Option (Bool)
 | 0, _, _, _, _, _, _, _, _, _, _ => none
 | k + 1, x3, x50, x476000, x476001, x476002, x476003, x476004, x478000, x478001, x478002 => if x50 = true then (some false) else (if x3 > 0 then (if 0 ≤ (wrap64 (x3 - 1)) then (if (wrap64 (x3 - 1)) < (x476003.length : Int) then (if x478000 < ((rd_T149 x476003 (wrap64 (x3 - 1))).f0) then (some false) else (if x478000 = ((rd_T149 x476003 (wrap64 (x3 - 1))).f0) then ((spec_l01Less.f k ((rd_T149 x476003 (wrap64 (x3 - 1))).f1) x478001).bind fun t486 => (if t486 = true then (spec_l14Joints.l0 k (wrap64 (x3 + 1)) x476000 x476001 x476002 x476003 x476004) else (some false))) else (spec_l14Joints.l0 k (wrap64 (x3 + 1)) x476000 x476001 x476002 x476003 x476004))) else (none)) else (none)) else (spec_l14Joints.l0 k (wrap64 (x3 + 1)) x476000 x476001 x476002 x476003 x476004))
end
def spec_l14Joints.f (k : Nat) (l0_0 : List Int) (l0_1 : List Int) (l0_2 : List Int) (l0_3 : List (S149)) (l0_4 : List (List Int)) : Option (Bool) := spec_l14Joints.l0 k 0 l0_0 l0_1 l0_2 l0_3 l0_4
theorem spec_l14Joints.mono_l : ∀ k, (∀ y0 y1 y2 y3 y4 y5, LeO (spec_l14Joints.l0 k y0 y1 y2 y3 y4 y5) (spec_l14Joints.l0 (k + 1) y0 y1 y2 y3 y4 y5)) ∧ (∀ y0 y1 y2 y3 y4 y5 y6 y7 y8 y9, LeO (spec_l14Joints.j1 k y0 y1 y2 y3 y4 y5 y6 y7 y8 y9) (spec_l14Joints.j1 (k + 1) y0 y1 y2 y3 y4 y5 y6 y7 y8 y9))
 | 0 => ⟨fun _ _ _ _ _ _ r h => by simp [spec_l14Joints.l0] at h, fun _ _ _ _ _ _ _ _ _ _ r h => by simp [spec_l14Joints.j1] at h⟩
 | k + 1 => by
  obtain ⟨ih0, ih1⟩ := spec_l14Joints.mono_l k
  refine ⟨?_, ?_⟩
  ·intro y0 y1 y2 y3 y4 y5
   unfold spec_l14Joints.l0
   repeat' first
   | (with_reducible exact ih0 _ _ _ _ _ _)
   | (with_reducible exact ih1 _ _ _ _ _ _ _ _ _ _)
   | (with_reducible exact spec_l01Less.mono _ _ _)
   | (with_reducible exact spec_l14Local.mono _ _ _ _ _ _ _ _)
   | (with_reducible exact LeO.refl _)
   | (with_reducible exact LeO.none _)
   | (with_reducible refine LeO.ite ?_ ?_)
   | (with_reducible refine LeO.bind ?_ (fun _ => ?_))
   | exact ih0 _ _ _ _ _ _
   | exact ih1 _ _ _ _ _ _ _ _ _ _
   | exact spec_l01Less.mono _ _ _
   | exact spec_l14Local.mono _ _ _ _ _ _ _ _
   | exact LeO.none _
   | refine LeO.ite ?_ ?_
   | refine LeO.bind ?_ (fun _ => ?_)
  ·intro y0 y1 y2 y3 y4 y5 y6 y7 y8 y9
   unfold spec_l14Joints.j1
   repeat' first
   | (with_reducible exact ih0 _ _ _ _ _ _)
   | (with_reducible exact ih1 _ _ _ _ _ _ _ _ _ _)
   | (with_reducible exact spec_l01Less.mono _ _ _)
   | (with_reducible exact spec_l14Local.mono _ _ _ _ _ _ _ _)
   | (with_reducible exact LeO.refl _)
   | (with_reducible exact LeO.none _)
   | (with_reducible refine LeO.ite ?_ ?_)
   | (with_reducible refine LeO.bind ?_ (fun _ => ?_))
   | exact ih0 _ _ _ _ _ _
   | exact ih1 _ _ _ _ _ _ _ _ _ _
   | exact spec_l01Less.mono _ _ _
   | exact spec_l14Local.mono _ _ _ _ _ _ _ _
   | exact LeO.none _
   | refine LeO.ite ?_ ?_
   | refine LeO.bind ?_ (fun _ => ?_)
theorem spec_l14Joints.mono : ∀ a0 a1 a2 a3 a4 k, LeO (spec_l14Joints.f k a0 a1 a2 a3 a4) (spec_l14Joints.f (k + 1) a0 a1 a2 a3 a4) := by
 intro a0 a1 a2 a3 a4 k
 obtain ⟨ih0, ih1⟩ := spec_l14Joints.mono_l k
 unfold spec_l14Joints.f
 repeat' first
   | (with_reducible exact ih0 _ _ _ _ _ _)
   | (with_reducible exact ih1 _ _ _ _ _ _ _ _ _ _)
   | (with_reducible exact spec_l01Less.mono _ _ _)
   | (with_reducible exact spec_l14Local.mono _ _ _ _ _ _ _ _)
   | (with_reducible exact LeO.refl _)
   | (with_reducible exact LeO.none _)
   | (with_reducible refine LeO.ite ?_ ?_)
   | (with_reducible refine LeO.bind ?_ (fun _ => ?_))
   | exact ih0 _ _ _ _ _ _
   | exact ih1 _ _ _ _ _ _ _ _ _ _
   | exact spec_l01Less.mono _ _ _
   | exact spec_l14Local.mono _ _ _ _ _ _ _ _
   | exact LeO.none _
   | refine LeO.ite ?_ ?_
   | refine LeO.bind ?_ (fun _ => ?_)
def spec_l14Joints.T5 : Bool × List (List Nat × List Nat) := (true, [([], []), ([0], [0]), ([], []), ([2], [2]), ([3], [3]), ([4], [4]), ([1, 5], [1, 5]), ([6], [6]), ([7, 6], [7]), ([8], [8]), ([8], [8]), ([10, 8], [8, 10]), ([8], [8]), ([12, 8], [8, 12]), ([11, 13, 8], [8, 11, 13]), ([14, 8], [8, 14]), ([8], [8]), ([16, 8], [8, 16]), ([9, 15, 17, 8, 8], [8, 9, 15, 17]), ([18, 8], [8, 18]), ([8, 19], [8, 19]), ([20, 18], [20]), ([21], [21]), ([21], [21]), ([23, 21], [21, 23]), ([21], [21]), ([25, 21], [21, 25]), ([24, 26, 21], [21, 24, 26]), ([27, 21], [21, 27]), ([21], [21]), ([29, 21], [21, 29]), ([22, 28, 30, 21, 21], [21, 22, 28, 30]), ([31, 21], [21, 31]), ([21, 32], [21, 32])])
def spec_l14Joints.B5 : List Nat := [0, 1, 0, 4, 12, 28, 63, 127, 255, 511, 511, 1535, 511, 4607, 15871, 32255, 511, 66047, 262143, 524287, 1048575, 2097151, 4194303, 4194303, 12582911, 4194303, 37748735, 130023423, 264241151, 4194303, 541065215, 2147483647, 4294967295, 8589934591]
theorem spec_l14Joints.tab5 : rtab .any (opsOf Tryd.f76 5) = spec_l14Joints.T5 := by kernel_rfl
theorem spec_l14Joints.bits5 : waitsOk spec_l14Joints.T5.2 spec_l14Joints.B5 = true := by kernel_rfl
def spec_l14Joints.T7 : Bool × List (List Nat × List Nat) := (true, [([], []), ([0], [0]), ([1], [1]), ([2], [2]), ([3, 2], [2, 3]), ([2], [2]), ([5, 2], [2, 5]), ([2], [2]), ([7, 2], [2, 7]), ([6, 8, 2], [2, 6, 8]), ([9, 2], [2, 9]), ([10, 2], [2, 10]), ([4, 11, 2], [2, 4, 11]), ([12, 2, 2], [2, 12]), ([13], [13]), ([14, 13], [13, 14]), ([13], [13]), ([16, 13], [13, 16]), ([13], [13]), ([18, 13], [13, 18]), ([17, 19, 13], [13, 17, 19]), ([20, 13], [13, 20]), ([21, 13], [13, 21]), ([15, 22, 13], [13, 15, 22]), ([23, 13, 13], [13, 23]), ([24], [24]), ([25, 24], [24, 25]), ([24], [24]), ([27, 24], [24, 27]), ([26, 28, 24], [24, 26, 28]), ([29, 24], [24, 29]), ([30, 24], [24, 30]), ([24], [24]), ([32, 24], [24, 32]), ([31, 33, 24, 24], [24, 31, 33]), ([34, 24], [24, 34]), ([24, 35, 13], [13, 24, 35]), ([13, 36, 2], [2, 13, 36]), ([2, 37], [2, 37])])
def spec_l14Joints.B7 : List Nat := [0, 1, 3, 7, 15, 7, 39, 7, 135, 487, 999, 2023, 4095, 8191, 16383, 32767, 16383, 81919, 16383, 278527, 999423, 2047999, 4145151, 8388607, 16777215, 33554431, 67108863, 33554431, 167772159, 536870911, 1073741823, 2147483647, 33554431, 4328521727, 17179869183, 34359738367, 68719476735, 137438953471, 274877906943]
theorem spec_l14Joints.tab7 : rtab .any (opsOf Tryd.f76 7) = spec_l14Joints.T7 := by kernel_rfl
theorem spec_l14Joints.bits7 : waitsOk spec_l14Joints.T7.2 spec_l14Joints.B7 = true := by kernel_rfl
set_option maxHeartbeats 8000000 in
set_option maxRecDepth 100000 in
theorem spec_l14Joints.calls (k : Nat) (A0_0 : Option Addr) (c0_0 : Nat) (l0_0 : List Int) (A0_1 : Option Addr) (c0_1 : Nat) (l0_1 : List Int) (A0_2 : Option Addr) (c0_2 : Nat) (l0_2 : List Int) (A0_3 : Option Addr) (c0_3 : Nat) (l0_3 : List (S149)) (A0_4 : Option Addr) (c0_4 : Nat) (l0_4 : List (List Int)) (r : Bool) (w : World) (hr0_0 : Kd.C (Kd.int .i64) w A0_0 l0_0.length l0_0) (hc0_0 : l0_0.length ≤ c0_0) (hr0_1 : Kd.C (Kd.int .i64) w A0_1 l0_1.length l0_1) (hc0_1 : l0_1.length ≤ c0_1) (hr0_2 : Kd.C (Kd.int .i64) w A0_2 l0_2.length l0_2) (hc0_2 : l0_2.length ≤ c0_2) (hr0_3 : Kd.C k149 w A0_3 l0_3.length l0_3) (hc0_3 : l0_3.length ≤ c0_3) (hr0_4 : Kd.C (Kd.slice 2 (Kd.int .i64)) w A0_4 l0_4.length l0_4) (hc0_4 : l0_4.length ≤ c0_4) (h : spec_l14Joints.f k l0_0 l0_1 l0_2 l0_3 l0_4 = some r) :
  Calls Tryd.prog 76 #[.agg #[.slice A0_0 l0_0.length c0_0, .slice A0_1 l0_1.length c0_1, .slice A0_2 l0_2.length c0_2, .slice A0_3 l0_3.length c0_3, .slice A0_4 l0_4.length c0_4]] w fun e w' => e = .returned (.bool r) ∧ Below w.heap.size w w' := by
 have hu65 := Tryd.underlying65
 have hu149 := Tryd.underlying149
 have HR0_0 := Aside0.mk hr0_0
 have HC0_0 := Aside0.mk hc0_0
 clear hr0_0 hc0_0
 have HR0_1 := Aside0.mk hr0_1
 have HC0_1 := Aside0.mk hc0_1
 clear hr0_1 hc0_1
 have HR0_2 := Aside0.mk hr0_2
 have HC0_2 := Aside0.mk hc0_2
 clear hr0_2 hc0_2
 have HR0_3 := Aside0.mk hr0_3
 have HC0_3 := Aside0.mk hc0_3
 clear hr0_3 hc0_3
 have HR0_4 := Aside0.mk hr0_4
 have HC0_4 := Aside0.mk hc0_4
 clear hr0_4 hc0_4
 have HB := Aside0.mk (Below.refl w.heap.size w)
 have H : (spec_l14Joints.l0 k 0 l0_0 l0_1 l0_2 l0_3 l0_4) = some r := h
 clear h
 have H' := Aside0.mk H
 clear H
 go_enter Tryd.func76, Tryd.ntmps76
 go_wp2_with (first | ((with_reducible refine gate_dst (N := 1) rfl ?_); refine boxS (N := 1) (cs := #[.slice A0_0 l0_0.length c0_0, .slice A0_1 l0_1.length c0_1, .slice A0_2 l0_2.length c0_2, .slice A0_3 l0_3.length c0_3, .slice A0_4 l0_4.length c0_4]) (t := 65) ?_; intro gb475 hg w2 hbox hb; have n0_ := Aside0.mk (below_step (bW) hb); have n1_ := Aside0.mk (hbox); have n2_ := geW (w := w) hg; have n3_ := geW (w := w) hg; clear HB; have HB := n0_; have BK475 := n1_; have GW475 := n2_; have GE475 := n3_; clear n0_ n1_ n2_ n3_; clear hb hbox hg))
 go_loopg [3] k (fun kq v3 w' => ∃ (x3_1 : Int), v3 = .int .i64 x3_1 ∧ Aside0 (spec_l14Joints.l0 kq x3_1 l0_0 l0_1 l0_2 l0_3 l0_4 = some r) ∧ Aside0 (kq ≤ k) ∧ Aside0 (w'.heap[gb475]? = some (.cells #[(.slice A0_0 l0_0.length c0_0), (.slice A0_1 l0_1.length c0_1), (.slice A0_2 l0_2.length c0_2), (.slice A0_3 l0_3.length c0_3), (.slice A0_4 l0_4.length c0_4)] 65 (0, 0))) ∧ Aside0 (Below w.heap.size w w'))
 case atStart => exact ⟨(0), (eW), H', ⟨Nat.le_refl _⟩, ⟨(bP BK475.out)⟩, ⟨bW⟩⟩
 case round =>
  clear H'
  try clear p2
  obtain ⟨x3_1, rfl, HA, HK1, BK475, HB⟩ := hrel
  cases gk with
  | zero => exact absurd HA.out (by simp [spec_l14Joints.l0])
  | succ k1 =>
   have H := HA.out
   clear HA
   simp only [spec_l14Joints.l0] at H
   by_cases c3 : x3_1 < (l0_3.length : Int)
   ·rw [if_pos c3] at H
    have c3b0 : decide (x3_1 < (l0_3.length : Int)) = true := decide_eq_true c3
    clear c3
    by_cases c4 : 0 ≤ x3_1
    ·rw [if_pos c4] at H
     have c4b0 : decide (0 ≤ x3_1) = true := decide_eq_true c4
     clear c4
     have HC5 := Aside0.mk H
     clear H
     have hcz6_0 : wr.cell? ⟨gb475, 0, none⟩ = some (.slice A0_0 l0_0.length c0_0) := (blk_cell BK475.out 0).trans rfl
     have hcz6_1 : wr.cell? ⟨gb475, 1, none⟩ = some (.slice A0_1 l0_1.length c0_1) := (blk_cell BK475.out 1).trans rfl
     have hcz6_2 : wr.cell? ⟨gb475, 2, none⟩ = some (.slice A0_2 l0_2.length c0_2) := (blk_cell BK475.out 2).trans rfl
     have hcz6_3 : wr.cell? ⟨gb475, 3, none⟩ = some (.slice A0_3 l0_3.length c0_3) := (blk_cell BK475.out 3).trans rfl
     have hcz6_4 : wr.cell? ⟨gb475, 4, none⟩ = some (.slice A0_4 l0_4.length c0_4) := (blk_cell BK475.out 4).trans rfl
     have hfz6_0 := blk_frozen BK475.out 0
     have hfz6_1 := blk_frozen BK475.out 1
     have hfz6_2 := blk_frozen BK475.out 2
     have hfz6_3 := blk_frozen BK475.out 3
     have hfz6_4 := blk_frozen BK475.out 4
     have p476 : 0 ≤ (x3_1 : Int) := ofD
     have q476 : x3_1 < (l0_3.length : Int) := ofD
     obtain ⟨ad476, A476_1, c476_1, A476_2, c476_2, e476, hx476_0, hx476_1, hx476_2, hl476_1, hi476_1, hl476_2, hi476_2⟩ := at_T149 HR0_3.out x3_1 p476 q476
     cases e476
     replace hx476_0 := (HB.out.cell (World.block_lt_of_cell? w _ hx476_0)).trans hx476_0
     replace hx476_1 := (HB.out.cell (World.block_lt_of_cell? w _ hx476_1)).trans hx476_1
     replace hx476_2 := (HB.out.cell (World.block_lt_of_cell? w _ hx476_2)).trans hx476_2
     have HR476_1 := Aside0.mk hi476_1
     have HC476_1 := Aside0.mk hl476_1
     clear hi476_1 hl476_1
     have HR476_2 := Aside0.mk hi476_2
     have HC476_2 := Aside0.mk hl476_2
     clear hi476_2 hl476_2
     replace p476 := eq_true p476
     replace q476 := eq_true q476
     go_upto_region 5 with (first | ((with_reducible refine gate_dst (N := 4) rfl ?_); refine boxS (N := 4) (cs := #[.int .i64 0, .slice none 0 0, .slice none 0 0]) (t := 149) ?_; intro gb477 hg w7 hbox hb; have n0_ := Aside0.mk (blkB BK475.out hb); have n1_ := Aside0.mk (below_step (bW) hb); have n2_ := Aside0.mk (hbox); have n3_ := geW (w := w) hg; have n4_ := geW (w := w) hg; have n5_ := Aside0.mk ((by rw [hg]; exact Nat.ne_of_lt (blk_lt (g := gb475) (o := .cells #[.slice A0_0 l0_0.length c0_0, .slice A0_1 l0_1.length c0_1, .slice A0_2 l0_2.length c0_2, .slice (some ad476) l0_3.length c0_3, .slice A0_4 l0_4.length c0_4] 65 (0, 0)) (bP BK475.out)) : gb475 ≠ gb477)); have n6_ := Aside0.mk ((by rw [hg]; exact Nat.ne_of_gt (blk_lt (g := gb475) (o := .cells #[.slice A0_0 l0_0.length c0_0, .slice A0_1 l0_1.length c0_1, .slice A0_2 l0_2.length c0_2, .slice (some ad476) l0_3.length c0_3, .slice A0_4 l0_4.length c0_4] 65 (0, 0)) (bP BK475.out)) : gb477 ≠ gb475)); clear BK475; clear HB; have BK475 := n0_; have HB := n1_; have BK477 := n2_; have GW477 := n3_; have GE477 := n4_; have NB475_477 := n5_; have NB477_475 := n6_; clear n0_ n1_ n2_ n3_ n4_ n5_ n6_; clear hb hbox hg; have hnb8 := NB477_475.out; have hnc8 := NB475_477.out; obtain ⟨hcz9_0, hcz9_1, hcz9_2⟩ := cells3 BK477.out; obtain ⟨hfz9_0, hfz9_1, hfz9_2⟩ := frz3 BK477.out))
     (try simp only [Act.put, List.setIfInBounds_toArray, List.set_cons_zero, List.set_cons_succ])
     go_cut [50] (fun v50 wc => ∃ (kq : Nat) (x50_4 : Bool), v50 = .bool x50_4 ∧ Aside0 (spec_l14Joints.j1 kq x3_1 x50_4 l0_0 l0_1 l0_2 l0_3 l0_4 ((rd_T149 l0_3 x3_1).f0) ((rd_T149 l0_3 x3_1).f1) ((rd_T149 l0_3 x3_1).f2) = some r) ∧ Aside0 (kq ≤ k1) ∧ Aside0 (wc.heap[gb475]? = some (.cells #[(.slice A0_0 l0_0.length c0_0), (.slice A0_1 l0_1.length c0_1), (.slice A0_2 l0_2.length c0_2), (.slice (some ad476) l0_3.length c0_3), (.slice A0_4 l0_4.length c0_4)] 65 (0, 0))) ∧ Aside0 (wc.heap[gb477]? = some (.cells #[.int .i64 ((rd_T149 l0_3 x3_1).f0), (.slice A476_1 ((rd_T149 l0_3 x3_1).f1).length c476_1), (.slice A476_2 ((rd_T149 l0_3 x3_1).f2).length c476_2)] 149 (0, 0))) ∧ Aside0 (Below w.heap.size w wc))
     case first =>
      have H := HC5.out
      clear HC5
      replace H := Option.bind_eq_some_iff.mp H
      obtain ⟨t478, A100, H⟩ := H
      replace H : (if t478 = true then (if 0 ≤ ((rd_T149 l0_3 x3_1).f0) then (if ((rd_T149 l0_3 x3_1).f0) < (l0_0.length : Int) then ((spec_l14Local.f k1 l0_0 l0_1 l0_2 l0_3 l0_4 (rd l0_0 ((rd_T149 l0_3 x3_1).f0)) ((rd_T149 l0_3 x3_1).f1)).bind fun t480 => (if t480 = true then ((spec_l14Local.f k1 l0_0 l0_1 l0_2 l0_3 l0_4 (rd l0_0 ((rd_T149 l0_3 x3_1).f0)) ((rd_T149 l0_3 x3_1).f2)).bind fun t482 => (spec_l14Joints.j1 k1 x3_1 (!t482) l0_0 l0_1 l0_2 l0_3 l0_4 ((rd_T149 l0_3 x3_1).f0) ((rd_T149 l0_3 x3_1).f1) ((rd_T149 l0_3 x3_1).f2))) else (spec_l14Joints.j1 k1 x3_1 true l0_0 l0_1 l0_2 l0_3 l0_4 ((rd_T149 l0_3 x3_1).f0) ((rd_T149 l0_3 x3_1).f1) ((rd_T149 l0_3 x3_1).f2)))) else (none)) else (none)) else (spec_l14Joints.j1 k1 x3_1 true l0_0 l0_1 l0_2 l0_3 l0_4 ((rd_T149 l0_3 x3_1).f0) ((rd_T149 l0_3 x3_1).f1) ((rd_T149 l0_3 x3_1).f2))) = some r := H
      have A10 := Aside0.mk A100
      clear A100
      by_cases c11 : t478 = true
      ·subst c11
       have H1 : (if 0 ≤ ((rd_T149 l0_3 x3_1).f0) then (if ((rd_T149 l0_3 x3_1).f0) < (l0_0.length : Int) then ((spec_l14Local.f k1 l0_0 l0_1 l0_2 l0_3 l0_4 (rd l0_0 ((rd_T149 l0_3 x3_1).f0)) ((rd_T149 l0_3 x3_1).f1)).bind fun t480 => (if t480 = true then ((spec_l14Local.f k1 l0_0 l0_1 l0_2 l0_3 l0_4 (rd l0_0 ((rd_T149 l0_3 x3_1).f0)) ((rd_T149 l0_3 x3_1).f2)).bind fun t482 => (spec_l14Joints.j1 k1 x3_1 (!t482) l0_0 l0_1 l0_2 l0_3 l0_4 ((rd_T149 l0_3 x3_1).f0) ((rd_T149 l0_3 x3_1).f1) ((rd_T149 l0_3 x3_1).f2))) else (spec_l14Joints.j1 k1 x3_1 true l0_0 l0_1 l0_2 l0_3 l0_4 ((rd_T149 l0_3 x3_1).f0) ((rd_T149 l0_3 x3_1).f1) ((rd_T149 l0_3 x3_1).f2)))) else (none)) else (none)) = some r := by rw [if_pos rfl] at H; exact H
       clear H
       have H := H1
       clear H1
       by_cases c12 : 0 ≤ ((rd_T149 l0_3 x3_1).f0)
       ·rw [if_pos c12] at H
        have c12b0 : decide (0 ≤ ((rd_T149 l0_3 x3_1).f0)) = true := decide_eq_true c12
        clear c12
        (first | rw [c12b0] | (simp only [i64_w, i32_w]; rw [c12b0]) | skip)
        by_cases c13 : ((rd_T149 l0_3 x3_1).f0) < (l0_0.length : Int)
        ·rw [if_pos c13] at H
         have c13b0 : decide (((rd_T149 l0_3 x3_1).f0) < (l0_0.length : Int)) = true := decide_eq_true c13
         clear c13
         replace H := Option.bind_eq_some_iff.mp H
         obtain ⟨t480, A140, H⟩ := H
         replace H : (if t480 = true then ((spec_l14Local.f k1 l0_0 l0_1 l0_2 l0_3 l0_4 (rd l0_0 ((rd_T149 l0_3 x3_1).f0)) ((rd_T149 l0_3 x3_1).f2)).bind fun t482 => (spec_l14Joints.j1 k1 x3_1 (!t482) l0_0 l0_1 l0_2 l0_3 l0_4 ((rd_T149 l0_3 x3_1).f0) ((rd_T149 l0_3 x3_1).f1) ((rd_T149 l0_3 x3_1).f2))) else (spec_l14Joints.j1 k1 x3_1 true l0_0 l0_1 l0_2 l0_3 l0_4 ((rd_T149 l0_3 x3_1).f0) ((rd_T149 l0_3 x3_1).f1) ((rd_T149 l0_3 x3_1).f2))) = some r := H
         have A14 := Aside0.mk A140
         clear A140
         by_cases c15 : t480 = true
         ·subst c15
          have H1 : ((spec_l14Local.f k1 l0_0 l0_1 l0_2 l0_3 l0_4 (rd l0_0 ((rd_T149 l0_3 x3_1).f0)) ((rd_T149 l0_3 x3_1).f2)).bind fun t482 => (spec_l14Joints.j1 k1 x3_1 (!t482) l0_0 l0_1 l0_2 l0_3 l0_4 ((rd_T149 l0_3 x3_1).f0) ((rd_T149 l0_3 x3_1).f1) ((rd_T149 l0_3 x3_1).f2))) = some r := by rw [if_pos rfl] at H; exact H
          clear H
          have H := H1
          clear H1
          replace H := Option.bind_eq_some_iff.mp H
          obtain ⟨t482, A160, H⟩ := H
          replace H : (spec_l14Joints.j1 k1 x3_1 (!t482) l0_0 l0_1 l0_2 l0_3 l0_4 ((rd_T149 l0_3 x3_1).f0) ((rd_T149 l0_3 x3_1).f1) ((rd_T149 l0_3 x3_1).f2)) = some r := H
          have A16 := Aside0.mk A160
          clear A160
          have H' := Aside0.mk H
          clear H
          try go_wp2
          have n0_ : Aside0 ((((w7.setCell ⟨gb477, 0, none⟩ (.int .i64 ((rd_T149 l0_3 x3_1).f0))).setCell ⟨gb477, 1, none⟩ (.slice A476_1 ((rd_T149 l0_3 x3_1).f1).length c476_1)).setCell ⟨gb477, 2, none⟩ (.slice A476_2 ((rd_T149 l0_3 x3_1).f2).length c476_2)).heap[gb475]? = some (.cells #[.slice A0_0 l0_0.length c0_0, .slice A0_1 l0_1.length c0_1, .slice A0_2 l0_2.length c0_2, .slice (some ad476) l0_3.length c0_3, .slice A0_4 l0_4.length c0_4] 65 (0, 0))) := ⟨by (with_reducible repeat (first | refine blk_drewN ?_ _ | refine blk_drew ?_ | refine blk_alloc ?_ _)); refine blk_far ?_ NB475_477.out _; (with_reducible repeat (first | refine blk_drewN ?_ _ | refine blk_drew ?_ | refine blk_alloc ?_ _)); refine blk_far ?_ NB475_477.out _; (with_reducible repeat (first | refine blk_drewN ?_ _ | refine blk_drew ?_ | refine blk_alloc ?_ _)); refine blk_far ?_ NB475_477.out _; exact bP BK475.out⟩
          have n1_ : Aside0 ((((w7.setCell ⟨gb477, 0, none⟩ (.int .i64 ((rd_T149 l0_3 x3_1).f0))).setCell ⟨gb477, 1, none⟩ (.slice A476_1 ((rd_T149 l0_3 x3_1).f1).length c476_1)).setCell ⟨gb477, 2, none⟩ (.slice A476_2 ((rd_T149 l0_3 x3_1).f2).length c476_2)).heap[gb477]? = some (.cells #[.int .i64 ((rd_T149 l0_3 x3_1).f0), .slice A476_1 ((rd_T149 l0_3 x3_1).f1).length c476_1, .slice A476_2 ((rd_T149 l0_3 x3_1).f2).length c476_2] 149 (0, 0))) := ⟨by (with_reducible repeat (first | refine blk_drewN ?_ _ | refine blk_drew ?_ | refine blk_alloc ?_ _)); refine blk_put (cs := #[.int .i64 ((rd_T149 l0_3 x3_1).f0), .slice A476_1 ((rd_T149 l0_3 x3_1).f1).length c476_1, .slice none 0 0]) ?_ 2 _ rfl; (with_reducible repeat (first | refine blk_drewN ?_ _ | refine blk_drew ?_ | refine blk_alloc ?_ _)); refine blk_put (cs := #[.int .i64 ((rd_T149 l0_3 x3_1).f0), .slice none 0 0, .slice none 0 0]) ?_ 1 _ rfl; (with_reducible repeat (first | refine blk_drewN ?_ _ | refine blk_drew ?_ | refine blk_alloc ?_ _)); refine blk_put (cs := #[.int .i64 0, .slice none 0 0, .slice none 0 0]) ?_ 0 _ rfl; exact bP BK477.out⟩
          have n2_ : Aside0 (Below w.heap.size w (((w7.setCell ⟨gb477, 0, none⟩ (.int .i64 ((rd_T149 l0_3 x3_1).f0))).setCell ⟨gb477, 1, none⟩ (.slice A476_1 ((rd_T149 l0_3 x3_1).f1).length c476_1)).setCell ⟨gb477, 2, none⟩ (.slice A476_2 ((rd_T149 l0_3 x3_1).f2).length c476_2))) := ⟨bW⟩
          (try clear BK475)
          (try clear BK477)
          (try clear HB)
          generalize (((w7.setCell ⟨gb477, 0, none⟩ (.int .i64 ((rd_T149 l0_3 x3_1).f0))).setCell ⟨gb477, 1, none⟩ (.slice A476_1 ((rd_T149 l0_3 x3_1).f1).length c476_1)).setCell ⟨gb477, 2, none⟩ (.slice A476_2 ((rd_T149 l0_3 x3_1).f2).length c476_2)) = w17 at n0_ n1_ n2_ ⊢
          have BK475 := n0_
          have BK477 := n1_
          have HB := n2_
          clear n0_ n1_ n2_
          have n0_ := Aside0.mk (blk_drew BK475.out)
          have n1_ := Aside0.mk (blk_drew BK477.out)
          have n2_ := Aside0.mk (below_drew1 HB.out)
          clear BK475
          clear BK477
          clear HB
          have BK475 := n0_
          have BK477 := n1_
          have HB := n2_
          clear n0_ n1_ n2_
          have p479 : 0 ≤ (((rd_T149 l0_3 x3_1).f0) : Int) := ofD
          have q479 : ((rd_T149 l0_3 x3_1).f0) < (l0_0.length : Int) := ofD
          obtain ⟨ad479, e479, hx479_0⟩ := Kd.at_int HR0_0.out ((rd_T149 l0_3 x3_1).f0) p479 q479
          have hw479_0 := hx479_0
          cases e479
          replace hx479_0 := (HB.out.cell (World.block_lt_of_cell? w _ hx479_0)).trans hx479_0
          replace p479 := eq_true p479
          replace q479 := eq_true q479
          have p481 : 0 ≤ (((rd_T149 l0_3 x3_1).f0) : Int) := ofD
          have q481 : ((rd_T149 l0_3 x3_1).f0) < (l0_0.length : Int) := ofD
          obtain ⟨ad481, e481, hx481_0⟩ := Kd.at_int HR0_0.out ((rd_T149 l0_3 x3_1).f0) p481 q481
          have hw481_0 := hx481_0
          obtain rfl : ad479 = ad481 := (by injection e481)
          replace hx481_0 := (HB.out.cell (World.block_lt_of_cell? w _ hx481_0)).trans hx481_0
          replace p481 := eq_true p481
          replace q481 := eq_true q481
          refine start_ (n := 34) (S := fun w' => w'.cell? ⟨gb477, 0, none⟩ = some (.int .i64 ((rd_T149 l0_3 x3_1).f0)) ∧ w'.cell? ⟨gb477, 1, none⟩ = some (.slice A476_1 ((rd_T149 l0_3 x3_1).f1).length c476_1) ∧ w'.cell? ⟨gb477, 2, none⟩ = some (.slice A476_2 ((rd_T149 l0_3 x3_1).f2).length c476_2) ∧ w'.cell? ⟨gb475, 0, none⟩ = some (.slice (some ad479) l0_0.length c0_0) ∧ w'.cell? ⟨gb475, 1, none⟩ = some (.slice A0_1 l0_1.length c0_1) ∧ w'.cell? ⟨gb475, 2, none⟩ = some (.slice A0_2 l0_2.length c0_2) ∧ w'.cell? ⟨gb475, 3, none⟩ = some (.slice (some ad476) l0_3.length c0_3) ∧ w'.cell? ⟨gb475, 4, none⟩ = some (.slice A0_4 l0_4.length c0_4) ∧ w'.cell? (ad479.add (((rd_T149 l0_3 x3_1).f0)).toNat) = some (.int .i64 (rd l0_0 ((rd_T149 l0_3 x3_1).f0))) ∧ w'.cell? (ad479.add (((rd_T149 l0_3 x3_1).f0)).toNat) = some (.int .i64 (rd l0_0 ((rd_T149 l0_3 x3_1).f0)))) (ds := []) #[false, false, false, false, false, false, false, false, false, false, false, false, false, false, false, false, false, false, false, false, false, false, false, false, false, false, false, false, false, false, false, false, false, false] (by kernel_rfl) rfl rfl ⟨(blk_cell BK477.out 0).trans rfl, (blk_cell BK477.out 1).trans rfl, (blk_cell BK477.out 2).trans rfl, (blk_cell BK475.out 0).trans rfl, (blk_cell BK475.out 1).trans rfl, (blk_cell BK475.out 2).trans rfl, (blk_cell BK475.out 3).trans rfl, (blk_cell BK475.out 4).trans rfl, ((HB.out.cell (World.block_lt_of_cell? w _ hw479_0)).trans hw479_0), ((HB.out.cell (World.block_lt_of_cell? w _ hw481_0)).trans hw481_0)⟩ (fun hHeld => ?_); refine with_tabW spec_l14Joints.tab5 spec_l14Joints.bits5 (fun HT_ HW_ => ?_)
          generalize w17.drew = w18 at BK475 BK477 HB hx479_0 hx481_0 hHeld ⊢
          refine pureS (i := 0) (N := some 17) (any_of HT_.out (by kernel_rfl)) ?_
          refine pureS (i := 2) (N := some 19) (any_of HT_.out (by kernel_rfl)) ?_
          refine takeS (i := 1) (N := some 18) (take_ofW HT_.out HW_.out (by kernel_rfl)) hHeld ?_
          refine takeS (i := 3) (N := some 20) (take_ofW HT_.out HW_.out (by kernel_rfl)) hHeld ?_
          refine pureS (i := 4) (N := some 21) (any_of HT_.out (by kernel_rfl)) ?_
          refine pureS (i := 5) (N := some 22) (any_of HT_.out (by kernel_rfl)) ?_
          refine one_ (i := 6) (N := some 23) #[true, true, true, true, true, true, true, false, false, false, false, false, false, false, false, false, false, false, false, false, false, false, false, false, false, false, false, false, false, false, false, false, false, false] rfl rfl (one_of HT_.out (by kernel_rfl)) (by decide) (fun K hK => ?_)
          refine goes_ Tryd.func74 (by kernel_rfl) rfl #[.int .i64 ((rd_T149 l0_3 x3_1).f0), .int .i64 0, .int .i64 (wrap64 ((l0_0.length : Int) - 1))] (by rfl) rfl rfl (by (try simp only [List.map_toArray, List.map_cons, List.map_nil]); first | done | rfl | (simp only [List.length_drop, List.length_take]; rfl)) ?_
          with_reducible refine (spec_l01In.calls ((rd_T149 l0_3 x3_1).f0) 0 (wrap64 ((l0_0.length : Int) - 1)) true _ A10.out).mono ?_
          rintro e w' ⟨rfl, ⟨nd, rfl⟩⟩
          refine ⟨_, rfl, ?_⟩
          refine hK.out _ _ ⟨(blk_cell BK477.out 0).trans rfl, (blk_cell BK477.out 1).trans rfl, (blk_cell BK477.out 2).trans rfl, (blk_cell BK475.out 0).trans rfl, (blk_cell BK475.out 1).trans rfl, (blk_cell BK475.out 2).trans rfl, (blk_cell BK475.out 3).trans rfl, (blk_cell BK475.out 4).trans rfl, ((HB.out.cell (World.block_lt_of_cell? w _ hw479_0)).trans hw479_0), ((HB.out.cell (World.block_lt_of_cell? w _ hw481_0)).trans hw481_0)⟩ (fun hHeld => ?_)
          clear hK K
          refine norm_ (a' := ?_) ?_ ?_
          rotate_left
          ·show Act.put _ (some 23) _ = _
           simp only [Act.put, List.setIfInBounds_toArray, List.set_cons_zero, List.set_cons_succ, i64_w, i32_w]
           rfl
          refine pureS (i := 7) (N := some 24) (any_of HT_.out (by kernel_rfl)) ?_
          refine pureS (i := 8) (N := some 25) (any_of HT_.out (by kernel_rfl)) ?_
          refine pureS (i := 10) (N := some 27) (any_of HT_.out (by kernel_rfl)) ?_
          refine pureS (i := 12) (N := some 29) (any_of HT_.out (by kernel_rfl)) ?_
          refine pureS (i := 16) (N := some 33) (any_of HT_.out (by kernel_rfl)) ?_
          refine takeS (i := 9) (N := some 26) (take_ofW HT_.out HW_.out (by kernel_rfl)) hHeld ?_
          refine takeS (i := 11) (N := some 28) (take_ofW HT_.out HW_.out (by kernel_rfl)) hHeld ?_
          refine takeS (i := 13) (N := some 30) (take_ofW HT_.out HW_.out (by kernel_rfl)) hHeld ?_
          refine pureS (i := 14) (N := some 31) (any_of HT_.out (by kernel_rfl)) ?_
          refine takeS (i := 15) (N := some 32) (take_ofW HT_.out HW_.out (by kernel_rfl)) hHeld ?_
          refine takeS (i := 17) (N := some 34) (take_ofW HT_.out HW_.out (by kernel_rfl)) hHeld ?_
          refine one_ (i := 18) (N := some 35) #[true, true, true, true, true, true, true, true, true, true, true, true, true, true, true, true, true, true, true, false, false, false, false, false, false, false, false, false, false, false, false, false, false, false] rfl rfl (one_of HT_.out (by kernel_rfl)) (by decide) (fun K hK => ?_)
          refine goes_ Tryd.func127 (by kernel_rfl) rfl #[.agg #[.slice (some ad479) l0_0.length c0_0, .slice A0_1 l0_1.length c0_1, .slice A0_2 l0_2.length c0_2, .slice (some ad476) l0_3.length c0_3, .slice A0_4 l0_4.length c0_4], .int .i64 (rd l0_0 ((rd_T149 l0_3 x3_1).f0)), .slice A476_1 ((rd_T149 l0_3 x3_1).f1).length c476_1] (by rfl) rfl rfl (by (try simp only [List.map_toArray, List.map_cons, List.map_nil]); first | done | rfl | (simp only [List.length_drop, List.length_take]; rfl)) ?_
          with_reducible refine (spec_l14Local.calls k1 _ _ l0_0 _ _ l0_1 _ _ l0_2 _ _ l0_3 _ _ l0_4 (rd l0_0 ((rd_T149 l0_3 x3_1).f0)) _ _ ((rd_T149 l0_3 x3_1).f1) true _ ?side1 ?side2 ?side3 ?side4 ?side5 ?side6 ?side7 ?side8 ?side9 ?side10 ?side11 ?side12 A14.out).mono ?_
          (case side1 => exact cP (Kd.C_below HR0_0.out (bW)))
          (case side2 => exact HC0_0.out)
          (case side3 => exact cP (Kd.C_below HR0_1.out (bW)))
          (case side4 => exact HC0_1.out)
          (case side5 => exact cP (Kd.C_below HR0_2.out (bW)))
          (case side6 => exact HC0_2.out)
          (case side7 => exact cP (Kd.C_below HR0_3.out (bW)))
          (case side8 => exact HC0_3.out)
          (case side9 => exact cP (Kd.C_below HR0_4.out (bW)))
          (case side10 => exact HC0_4.out)
          (case side11 => exact cP (Kd.C_below HR476_1.out (bW)))
          (case side12 => exact HC476_1.out)
          rintro e w19 ⟨rfl, hb⟩
          refine ⟨_, rfl, ?_⟩
          have n0_ := Aside0.mk (blkB BK475.out hb)
          have n1_ := Aside0.mk (blkB BK477.out hb)
          have n2_ := Aside0.mk (below_step (bW) hb)
          clear BK475
          clear BK477
          clear HB
          have BK475 := n0_
          have BK477 := n1_
          have HB := n2_
          clear n0_ n1_ n2_
          (try clear hb)
          (try clear hb2)
          (try clear hk)
          (try clear hi)
          refine hK.out _ _ ⟨(blk_cell BK477.out 0).trans rfl, (blk_cell BK477.out 1).trans rfl, (blk_cell BK477.out 2).trans rfl, (blk_cell BK475.out 0).trans rfl, (blk_cell BK475.out 1).trans rfl, (blk_cell BK475.out 2).trans rfl, (blk_cell BK475.out 3).trans rfl, (blk_cell BK475.out 4).trans rfl, ((HB.out.cell (World.block_lt_of_cell? w _ hw479_0)).trans hw479_0), ((HB.out.cell (World.block_lt_of_cell? w _ hw481_0)).trans hw481_0)⟩ (fun hHeld => ?_)
          clear hK K
          refine norm_ (a' := ?_) ?_ ?_
          rotate_left
          ·show Act.put _ (some 35) _ = _
           simp only [Act.put, List.setIfInBounds_toArray, List.set_cons_zero, List.set_cons_succ, i64_w, i32_w]
           rfl
          refine pureS (i := 19) (N := some 36) (any_of HT_.out (by kernel_rfl)) ?_
          refine pureS (i := 20) (N := some 37) (any_of HT_.out (by kernel_rfl)) ?_
          refine pureS (i := 21) (N := some 38) (any_of HT_.out (by kernel_rfl)) ?_
          refine pureS (i := 23) (N := some 40) (any_of HT_.out (by kernel_rfl)) ?_
          refine pureS (i := 25) (N := some 42) (any_of HT_.out (by kernel_rfl)) ?_
          refine pureS (i := 29) (N := some 46) (any_of HT_.out (by kernel_rfl)) ?_
          refine takeS (i := 22) (N := some 39) (take_ofW HT_.out HW_.out (by kernel_rfl)) hHeld ?_
          refine takeS (i := 24) (N := some 41) (take_ofW HT_.out HW_.out (by kernel_rfl)) hHeld ?_
          refine takeS (i := 26) (N := some 43) (take_ofW HT_.out HW_.out (by kernel_rfl)) hHeld ?_
          refine pureS (i := 27) (N := some 44) (any_of HT_.out (by kernel_rfl)) ?_
          refine takeS (i := 28) (N := some 45) (take_ofW HT_.out HW_.out (by kernel_rfl)) hHeld ?_
          refine takeS (i := 30) (N := some 47) (take_ofW HT_.out HW_.out (by kernel_rfl)) hHeld ?_
          refine one_ (i := 31) (N := some 48) #[true, true, true, true, true, true, true, true, true, true, true, true, true, true, true, true, true, true, true, true, true, true, true, true, true, true, true, true, true, true, true, true, false, false] rfl rfl (one_of HT_.out (by kernel_rfl)) (by decide) (fun K hK => ?_)
          refine goes_ Tryd.func127 (by kernel_rfl) rfl #[.agg #[.slice (some ad479) l0_0.length c0_0, .slice A0_1 l0_1.length c0_1, .slice A0_2 l0_2.length c0_2, .slice (some ad476) l0_3.length c0_3, .slice A0_4 l0_4.length c0_4], .int .i64 (rd l0_0 ((rd_T149 l0_3 x3_1).f0)), .slice A476_2 ((rd_T149 l0_3 x3_1).f2).length c476_2] (by rfl) rfl rfl (by (try simp only [List.map_toArray, List.map_cons, List.map_nil]); first | done | rfl | (simp only [List.length_drop, List.length_take]; rfl)) ?_
          with_reducible refine (spec_l14Local.calls k1 _ _ l0_0 _ _ l0_1 _ _ l0_2 _ _ l0_3 _ _ l0_4 (rd l0_0 ((rd_T149 l0_3 x3_1).f0)) _ _ ((rd_T149 l0_3 x3_1).f2) t482 _ ?side1 ?side2 ?side3 ?side4 ?side5 ?side6 ?side7 ?side8 ?side9 ?side10 ?side11 ?side12 A16.out).mono ?_
          (case side1 => exact cP (Kd.C_below HR0_0.out HB.out))
          (case side2 => exact HC0_0.out)
          (case side3 => exact cP (Kd.C_below HR0_1.out HB.out))
          (case side4 => exact HC0_1.out)
          (case side5 => exact cP (Kd.C_below HR0_2.out HB.out))
          (case side6 => exact HC0_2.out)
          (case side7 => exact cP (Kd.C_below HR0_3.out HB.out))
          (case side8 => exact HC0_3.out)
          (case side9 => exact cP (Kd.C_below HR0_4.out HB.out))
          (case side10 => exact HC0_4.out)
          (case side11 => exact cP (Kd.C_below HR476_2.out HB.out))
          (case side12 => exact HC476_2.out)
          rintro e w20 ⟨rfl, hb⟩
          refine ⟨_, rfl, ?_⟩
          have n0_ := Aside0.mk (blkB BK475.out hb)
          have n1_ := Aside0.mk (blkB BK477.out hb)
          have n2_ := Aside0.mk (below_step (bW) hb)
          clear BK475
          clear BK477
          clear HB
          have BK475 := n0_
          have BK477 := n1_
          have HB := n2_
          clear n0_ n1_ n2_
          (try clear hb)
          (try clear hb2)
          (try clear hk)
          (try clear hi)
          refine hK.out _ _ ⟨(blk_cell BK477.out 0).trans rfl, (blk_cell BK477.out 1).trans rfl, (blk_cell BK477.out 2).trans rfl, (blk_cell BK475.out 0).trans rfl, (blk_cell BK475.out 1).trans rfl, (blk_cell BK475.out 2).trans rfl, (blk_cell BK475.out 3).trans rfl, (blk_cell BK475.out 4).trans rfl, ((HB.out.cell (World.block_lt_of_cell? w _ hw479_0)).trans hw479_0), ((HB.out.cell (World.block_lt_of_cell? w _ hw481_0)).trans hw481_0)⟩ (fun hHeld => ?_)
          clear hK K
          refine norm_ (a' := ?_) ?_ ?_
          rotate_left
          ·show Act.put _ (some 48) _ = _
           simp only [Act.put, List.setIfInBounds_toArray, List.set_cons_zero, List.set_cons_succ, i64_w, i32_w]
           rfl
          refine pureS (i := 32) (N := some 49) (any_of HT_.out (by kernel_rfl)) ?_
          refine pureS (i := 33) (N := some 50) (any_of HT_.out (by kernel_rfl)) ?_
          refine done_ (done_of HT_.out (by kernel_rfl)) ?_
          try go_wp2
          go_meet
          case rel => exact ⟨_, (!t482), (eW), H', ⟨by have := HK1.out; first | omega | exact Nat.le_refl _⟩, ⟨(bP BK475.out)⟩, ⟨(bP BK477.out)⟩, ⟨bW⟩⟩
         ·replace c15 := Bool.eq_false_iff.mpr c15
          subst c15
          have H1 : (spec_l14Joints.j1 k1 x3_1 true l0_0 l0_1 l0_2 l0_3 l0_4 ((rd_T149 l0_3 x3_1).f0) ((rd_T149 l0_3 x3_1).f1) ((rd_T149 l0_3 x3_1).f2)) = some r := by rw [if_neg (show ¬ (false = true) by decide)] at H; exact H
          clear H
          have H := H1
          clear H1
          have H' := Aside0.mk H
          clear H
          try go_wp2
          have n0_ : Aside0 ((((w7.setCell ⟨gb477, 0, none⟩ (.int .i64 ((rd_T149 l0_3 x3_1).f0))).setCell ⟨gb477, 1, none⟩ (.slice A476_1 ((rd_T149 l0_3 x3_1).f1).length c476_1)).setCell ⟨gb477, 2, none⟩ (.slice A476_2 ((rd_T149 l0_3 x3_1).f2).length c476_2)).heap[gb475]? = some (.cells #[.slice A0_0 l0_0.length c0_0, .slice A0_1 l0_1.length c0_1, .slice A0_2 l0_2.length c0_2, .slice (some ad476) l0_3.length c0_3, .slice A0_4 l0_4.length c0_4] 65 (0, 0))) := ⟨by (with_reducible repeat (first | refine blk_drewN ?_ _ | refine blk_drew ?_ | refine blk_alloc ?_ _)); refine blk_far ?_ NB475_477.out _; (with_reducible repeat (first | refine blk_drewN ?_ _ | refine blk_drew ?_ | refine blk_alloc ?_ _)); refine blk_far ?_ NB475_477.out _; (with_reducible repeat (first | refine blk_drewN ?_ _ | refine blk_drew ?_ | refine blk_alloc ?_ _)); refine blk_far ?_ NB475_477.out _; exact bP BK475.out⟩
          have n1_ : Aside0 ((((w7.setCell ⟨gb477, 0, none⟩ (.int .i64 ((rd_T149 l0_3 x3_1).f0))).setCell ⟨gb477, 1, none⟩ (.slice A476_1 ((rd_T149 l0_3 x3_1).f1).length c476_1)).setCell ⟨gb477, 2, none⟩ (.slice A476_2 ((rd_T149 l0_3 x3_1).f2).length c476_2)).heap[gb477]? = some (.cells #[.int .i64 ((rd_T149 l0_3 x3_1).f0), .slice A476_1 ((rd_T149 l0_3 x3_1).f1).length c476_1, .slice A476_2 ((rd_T149 l0_3 x3_1).f2).length c476_2] 149 (0, 0))) := ⟨by (with_reducible repeat (first | refine blk_drewN ?_ _ | refine blk_drew ?_ | refine blk_alloc ?_ _)); refine blk_put (cs := #[.int .i64 ((rd_T149 l0_3 x3_1).f0), .slice A476_1 ((rd_T149 l0_3 x3_1).f1).length c476_1, .slice none 0 0]) ?_ 2 _ rfl; (with_reducible repeat (first | refine blk_drewN ?_ _ | refine blk_drew ?_ | refine blk_alloc ?_ _)); refine blk_put (cs := #[.int .i64 ((rd_T149 l0_3 x3_1).f0), .slice none 0 0, .slice none 0 0]) ?_ 1 _ rfl; (with_reducible repeat (first | refine blk_drewN ?_ _ | refine blk_drew ?_ | refine blk_alloc ?_ _)); refine blk_put (cs := #[.int .i64 0, .slice none 0 0, .slice none 0 0]) ?_ 0 _ rfl; exact bP BK477.out⟩
          have n2_ : Aside0 (Below w.heap.size w (((w7.setCell ⟨gb477, 0, none⟩ (.int .i64 ((rd_T149 l0_3 x3_1).f0))).setCell ⟨gb477, 1, none⟩ (.slice A476_1 ((rd_T149 l0_3 x3_1).f1).length c476_1)).setCell ⟨gb477, 2, none⟩ (.slice A476_2 ((rd_T149 l0_3 x3_1).f2).length c476_2))) := ⟨bW⟩
          (try clear BK475)
          (try clear BK477)
          (try clear HB)
          generalize (((w7.setCell ⟨gb477, 0, none⟩ (.int .i64 ((rd_T149 l0_3 x3_1).f0))).setCell ⟨gb477, 1, none⟩ (.slice A476_1 ((rd_T149 l0_3 x3_1).f1).length c476_1)).setCell ⟨gb477, 2, none⟩ (.slice A476_2 ((rd_T149 l0_3 x3_1).f2).length c476_2)) = w21 at n0_ n1_ n2_ ⊢
          have BK475 := n0_
          have BK477 := n1_
          have HB := n2_
          clear n0_ n1_ n2_
          have n0_ := Aside0.mk (blk_drew BK475.out)
          have n1_ := Aside0.mk (blk_drew BK477.out)
          have n2_ := Aside0.mk (below_drew1 HB.out)
          clear BK475
          clear BK477
          clear HB
          have BK475 := n0_
          have BK477 := n1_
          have HB := n2_
          clear n0_ n1_ n2_
          have p479 : 0 ≤ (((rd_T149 l0_3 x3_1).f0) : Int) := ofD
          have q479 : ((rd_T149 l0_3 x3_1).f0) < (l0_0.length : Int) := ofD
          obtain ⟨ad479, e479, hx479_0⟩ := Kd.at_int HR0_0.out ((rd_T149 l0_3 x3_1).f0) p479 q479
          have hw479_0 := hx479_0
          cases e479
          replace hx479_0 := (HB.out.cell (World.block_lt_of_cell? w _ hx479_0)).trans hx479_0
          replace p479 := eq_true p479
          replace q479 := eq_true q479
          refine start_ (n := 34) (S := fun w' => w'.cell? ⟨gb477, 0, none⟩ = some (.int .i64 ((rd_T149 l0_3 x3_1).f0)) ∧ w'.cell? ⟨gb477, 1, none⟩ = some (.slice A476_1 ((rd_T149 l0_3 x3_1).f1).length c476_1) ∧ w'.cell? ⟨gb477, 2, none⟩ = some (.slice A476_2 ((rd_T149 l0_3 x3_1).f2).length c476_2) ∧ w'.cell? ⟨gb475, 0, none⟩ = some (.slice (some ad479) l0_0.length c0_0) ∧ w'.cell? ⟨gb475, 1, none⟩ = some (.slice A0_1 l0_1.length c0_1) ∧ w'.cell? ⟨gb475, 2, none⟩ = some (.slice A0_2 l0_2.length c0_2) ∧ w'.cell? ⟨gb475, 3, none⟩ = some (.slice (some ad476) l0_3.length c0_3) ∧ w'.cell? ⟨gb475, 4, none⟩ = some (.slice A0_4 l0_4.length c0_4) ∧ w'.cell? (ad479.add (((rd_T149 l0_3 x3_1).f0)).toNat) = some (.int .i64 (rd l0_0 ((rd_T149 l0_3 x3_1).f0)))) (ds := []) #[false, false, false, false, false, false, false, false, false, false, false, false, false, false, false, false, false, false, false, false, false, false, false, false, false, false, false, false, false, false, false, false, false, false] (by kernel_rfl) rfl rfl ⟨(blk_cell BK477.out 0).trans rfl, (blk_cell BK477.out 1).trans rfl, (blk_cell BK477.out 2).trans rfl, (blk_cell BK475.out 0).trans rfl, (blk_cell BK475.out 1).trans rfl, (blk_cell BK475.out 2).trans rfl, (blk_cell BK475.out 3).trans rfl, (blk_cell BK475.out 4).trans rfl, ((HB.out.cell (World.block_lt_of_cell? w _ hw479_0)).trans hw479_0)⟩ (fun hHeld => ?_); refine with_tabW spec_l14Joints.tab5 spec_l14Joints.bits5 (fun HT_ HW_ => ?_)
          generalize w21.drew = w22 at BK475 BK477 HB hx479_0 hHeld ⊢
          refine pureS (i := 0) (N := some 17) (any_of HT_.out (by kernel_rfl)) ?_
          refine pureS (i := 2) (N := some 19) (any_of HT_.out (by kernel_rfl)) ?_
          refine takeS (i := 1) (N := some 18) (take_ofW HT_.out HW_.out (by kernel_rfl)) hHeld ?_
          refine takeS (i := 3) (N := some 20) (take_ofW HT_.out HW_.out (by kernel_rfl)) hHeld ?_
          refine pureS (i := 4) (N := some 21) (any_of HT_.out (by kernel_rfl)) ?_
          refine pureS (i := 5) (N := some 22) (any_of HT_.out (by kernel_rfl)) ?_
          refine one_ (i := 6) (N := some 23) #[true, true, true, true, true, true, true, false, false, false, false, false, false, false, false, false, false, false, false, false, false, false, false, false, false, false, false, false, false, false, false, false, false, false] rfl rfl (one_of HT_.out (by kernel_rfl)) (by decide) (fun K hK => ?_)
          refine goes_ Tryd.func74 (by kernel_rfl) rfl #[.int .i64 ((rd_T149 l0_3 x3_1).f0), .int .i64 0, .int .i64 (wrap64 ((l0_0.length : Int) - 1))] (by rfl) rfl rfl (by (try simp only [List.map_toArray, List.map_cons, List.map_nil]); first | done | rfl | (simp only [List.length_drop, List.length_take]; rfl)) ?_
          with_reducible refine (spec_l01In.calls ((rd_T149 l0_3 x3_1).f0) 0 (wrap64 ((l0_0.length : Int) - 1)) true _ A10.out).mono ?_
          rintro e w' ⟨rfl, ⟨nd, rfl⟩⟩
          refine ⟨_, rfl, ?_⟩
          refine hK.out _ _ ⟨(blk_cell BK477.out 0).trans rfl, (blk_cell BK477.out 1).trans rfl, (blk_cell BK477.out 2).trans rfl, (blk_cell BK475.out 0).trans rfl, (blk_cell BK475.out 1).trans rfl, (blk_cell BK475.out 2).trans rfl, (blk_cell BK475.out 3).trans rfl, (blk_cell BK475.out 4).trans rfl, ((HB.out.cell (World.block_lt_of_cell? w _ hw479_0)).trans hw479_0)⟩ (fun hHeld => ?_)
          clear hK K
          refine norm_ (a' := ?_) ?_ ?_
          rotate_left
          ·show Act.put _ (some 23) _ = _
           simp only [Act.put, List.setIfInBounds_toArray, List.set_cons_zero, List.set_cons_succ, i64_w, i32_w]
           rfl
          refine pureS (i := 7) (N := some 24) (any_of HT_.out (by kernel_rfl)) ?_
          refine pureS (i := 8) (N := some 25) (any_of HT_.out (by kernel_rfl)) ?_
          refine pureS (i := 10) (N := some 27) (any_of HT_.out (by kernel_rfl)) ?_
          refine pureS (i := 12) (N := some 29) (any_of HT_.out (by kernel_rfl)) ?_
          refine pureS (i := 16) (N := some 33) (any_of HT_.out (by kernel_rfl)) ?_
          refine takeS (i := 9) (N := some 26) (take_ofW HT_.out HW_.out (by kernel_rfl)) hHeld ?_
          refine takeS (i := 11) (N := some 28) (take_ofW HT_.out HW_.out (by kernel_rfl)) hHeld ?_
          refine takeS (i := 13) (N := some 30) (take_ofW HT_.out HW_.out (by kernel_rfl)) hHeld ?_
          refine pureS (i := 14) (N := some 31) (any_of HT_.out (by kernel_rfl)) ?_
          refine takeS (i := 15) (N := some 32) (take_ofW HT_.out HW_.out (by kernel_rfl)) hHeld ?_
          refine takeS (i := 17) (N := some 34) (take_ofW HT_.out HW_.out (by kernel_rfl)) hHeld ?_
          refine one_ (i := 18) (N := some 35) #[true, true, true, true, true, true, true, true, true, true, true, true, true, true, true, true, true, true, true, false, false, false, false, false, false, false, false, false, false, false, false, false, false, false] rfl rfl (one_of HT_.out (by kernel_rfl)) (by decide) (fun K hK => ?_)
          refine goes_ Tryd.func127 (by kernel_rfl) rfl #[.agg #[.slice (some ad479) l0_0.length c0_0, .slice A0_1 l0_1.length c0_1, .slice A0_2 l0_2.length c0_2, .slice (some ad476) l0_3.length c0_3, .slice A0_4 l0_4.length c0_4], .int .i64 (rd l0_0 ((rd_T149 l0_3 x3_1).f0)), .slice A476_1 ((rd_T149 l0_3 x3_1).f1).length c476_1] (by rfl) rfl rfl (by (try simp only [List.map_toArray, List.map_cons, List.map_nil]); first | done | rfl | (simp only [List.length_drop, List.length_take]; rfl)) ?_
          with_reducible refine (spec_l14Local.calls k1 _ _ l0_0 _ _ l0_1 _ _ l0_2 _ _ l0_3 _ _ l0_4 (rd l0_0 ((rd_T149 l0_3 x3_1).f0)) _ _ ((rd_T149 l0_3 x3_1).f1) false _ ?side1 ?side2 ?side3 ?side4 ?side5 ?side6 ?side7 ?side8 ?side9 ?side10 ?side11 ?side12 A14.out).mono ?_
          (case side1 => exact cP (Kd.C_below HR0_0.out (bW)))
          (case side2 => exact HC0_0.out)
          (case side3 => exact cP (Kd.C_below HR0_1.out (bW)))
          (case side4 => exact HC0_1.out)
          (case side5 => exact cP (Kd.C_below HR0_2.out (bW)))
          (case side6 => exact HC0_2.out)
          (case side7 => exact cP (Kd.C_below HR0_3.out (bW)))
          (case side8 => exact HC0_3.out)
          (case side9 => exact cP (Kd.C_below HR0_4.out (bW)))
          (case side10 => exact HC0_4.out)
          (case side11 => exact cP (Kd.C_below HR476_1.out (bW)))
          (case side12 => exact HC476_1.out)
          rintro e w23 ⟨rfl, hb⟩
          refine ⟨_, rfl, ?_⟩
          have n0_ := Aside0.mk (blkB BK475.out hb)
          have n1_ := Aside0.mk (blkB BK477.out hb)
          have n2_ := Aside0.mk (below_step (bW) hb)
          clear BK475
          clear BK477
          clear HB
          have BK475 := n0_
          have BK477 := n1_
          have HB := n2_
          clear n0_ n1_ n2_
          (try clear hb)
          (try clear hb2)
          (try clear hk)
          (try clear hi)
          refine hK.out _ _ ⟨(blk_cell BK477.out 0).trans rfl, (blk_cell BK477.out 1).trans rfl, (blk_cell BK477.out 2).trans rfl, (blk_cell BK475.out 0).trans rfl, (blk_cell BK475.out 1).trans rfl, (blk_cell BK475.out 2).trans rfl, (blk_cell BK475.out 3).trans rfl, (blk_cell BK475.out 4).trans rfl, ((HB.out.cell (World.block_lt_of_cell? w _ hw479_0)).trans hw479_0)⟩ (fun hHeld => ?_)
          clear hK K
          refine norm_ (a' := ?_) ?_ ?_
          rotate_left
          ·show Act.put _ (some 35) _ = _
           simp only [Act.put, List.setIfInBounds_toArray, List.set_cons_zero, List.set_cons_succ, i64_w, i32_w]
           rfl
          refine pureS (i := 19) (N := some 36) (any_of HT_.out (by kernel_rfl)) ?_
          refine pureS (i := 20) (N := some 37) (any_of HT_.out (by kernel_rfl)) ?_
          refine pureS (i := 21) (N := some 38) (any_of HT_.out (by kernel_rfl)) ?_
          refine pureU (i := 22) (N := some 39) (any_of HT_.out (by kernel_rfl)) ?_
          refine pureU (i := 23) (N := some 40) (any_of HT_.out (by kernel_rfl)) ?_
          refine pureU (i := 24) (N := some 41) (any_of HT_.out (by kernel_rfl)) ?_
          refine pureU (i := 25) (N := some 42) (any_of HT_.out (by kernel_rfl)) ?_
          refine pureU (i := 26) (N := some 43) (any_of HT_.out (by kernel_rfl)) ?_
          refine pureU (i := 27) (N := some 44) (any_of HT_.out (by kernel_rfl)) ?_
          refine pureU (i := 28) (N := some 45) (any_of HT_.out (by kernel_rfl)) ?_
          refine pureU (i := 29) (N := some 46) (any_of HT_.out (by kernel_rfl)) ?_
          refine pureU (i := 30) (N := some 47) (any_of HT_.out (by kernel_rfl)) ?_
          refine pureU (i := 31) (N := some 48) (any_of HT_.out (by kernel_rfl)) ?_
          refine pureU (i := 32) (N := some 49) (any_of HT_.out (by kernel_rfl)) ?_
          refine pureS (i := 33) (N := some 50) (any_of HT_.out (by kernel_rfl)) ?_
          refine done_ (done_of HT_.out (by kernel_rfl)) ?_
          try go_wp2
          go_meet
          case rel => exact ⟨_, (true), (eW), H', ⟨by have := HK1.out; first | omega | exact Nat.le_refl _⟩, ⟨(bP BK475.out)⟩, ⟨(bP BK477.out)⟩, ⟨bW⟩⟩
        ·rw [if_neg c13] at H
         exact absurd H (by simp)
       ·rw [if_neg c12] at H
        exact absurd H (by simp)
      ·replace c11 := Bool.eq_false_iff.mpr c11
       subst c11
       have H1 : (spec_l14Joints.j1 k1 x3_1 true l0_0 l0_1 l0_2 l0_3 l0_4 ((rd_T149 l0_3 x3_1).f0) ((rd_T149 l0_3 x3_1).f1) ((rd_T149 l0_3 x3_1).f2)) = some r := by rw [if_neg (show ¬ (false = true) by decide)] at H; exact H
       clear H
       have H := H1
       clear H1
       have H' := Aside0.mk H
       clear H
       try go_wp2
       have n0_ : Aside0 ((((w7.setCell ⟨gb477, 0, none⟩ (.int .i64 ((rd_T149 l0_3 x3_1).f0))).setCell ⟨gb477, 1, none⟩ (.slice A476_1 ((rd_T149 l0_3 x3_1).f1).length c476_1)).setCell ⟨gb477, 2, none⟩ (.slice A476_2 ((rd_T149 l0_3 x3_1).f2).length c476_2)).heap[gb475]? = some (.cells #[.slice A0_0 l0_0.length c0_0, .slice A0_1 l0_1.length c0_1, .slice A0_2 l0_2.length c0_2, .slice (some ad476) l0_3.length c0_3, .slice A0_4 l0_4.length c0_4] 65 (0, 0))) := ⟨by (with_reducible repeat (first | refine blk_drewN ?_ _ | refine blk_drew ?_ | refine blk_alloc ?_ _)); refine blk_far ?_ NB475_477.out _; (with_reducible repeat (first | refine blk_drewN ?_ _ | refine blk_drew ?_ | refine blk_alloc ?_ _)); refine blk_far ?_ NB475_477.out _; (with_reducible repeat (first | refine blk_drewN ?_ _ | refine blk_drew ?_ | refine blk_alloc ?_ _)); refine blk_far ?_ NB475_477.out _; exact bP BK475.out⟩
       have n1_ : Aside0 ((((w7.setCell ⟨gb477, 0, none⟩ (.int .i64 ((rd_T149 l0_3 x3_1).f0))).setCell ⟨gb477, 1, none⟩ (.slice A476_1 ((rd_T149 l0_3 x3_1).f1).length c476_1)).setCell ⟨gb477, 2, none⟩ (.slice A476_2 ((rd_T149 l0_3 x3_1).f2).length c476_2)).heap[gb477]? = some (.cells #[.int .i64 ((rd_T149 l0_3 x3_1).f0), .slice A476_1 ((rd_T149 l0_3 x3_1).f1).length c476_1, .slice A476_2 ((rd_T149 l0_3 x3_1).f2).length c476_2] 149 (0, 0))) := ⟨by (with_reducible repeat (first | refine blk_drewN ?_ _ | refine blk_drew ?_ | refine blk_alloc ?_ _)); refine blk_put (cs := #[.int .i64 ((rd_T149 l0_3 x3_1).f0), .slice A476_1 ((rd_T149 l0_3 x3_1).f1).length c476_1, .slice none 0 0]) ?_ 2 _ rfl; (with_reducible repeat (first | refine blk_drewN ?_ _ | refine blk_drew ?_ | refine blk_alloc ?_ _)); refine blk_put (cs := #[.int .i64 ((rd_T149 l0_3 x3_1).f0), .slice none 0 0, .slice none 0 0]) ?_ 1 _ rfl; (with_reducible repeat (first | refine blk_drewN ?_ _ | refine blk_drew ?_ | refine blk_alloc ?_ _)); refine blk_put (cs := #[.int .i64 0, .slice none 0 0, .slice none 0 0]) ?_ 0 _ rfl; exact bP BK477.out⟩
       have n2_ : Aside0 (Below w.heap.size w (((w7.setCell ⟨gb477, 0, none⟩ (.int .i64 ((rd_T149 l0_3 x3_1).f0))).setCell ⟨gb477, 1, none⟩ (.slice A476_1 ((rd_T149 l0_3 x3_1).f1).length c476_1)).setCell ⟨gb477, 2, none⟩ (.slice A476_2 ((rd_T149 l0_3 x3_1).f2).length c476_2))) := ⟨bW⟩
       (try clear BK475)
       (try clear BK477)
       (try clear HB)
       generalize (((w7.setCell ⟨gb477, 0, none⟩ (.int .i64 ((rd_T149 l0_3 x3_1).f0))).setCell ⟨gb477, 1, none⟩ (.slice A476_1 ((rd_T149 l0_3 x3_1).f1).length c476_1)).setCell ⟨gb477, 2, none⟩ (.slice A476_2 ((rd_T149 l0_3 x3_1).f2).length c476_2)) = w24 at n0_ n1_ n2_ ⊢
       have BK475 := n0_
       have BK477 := n1_
       have HB := n2_
       clear n0_ n1_ n2_
       have n0_ := Aside0.mk (blk_drew BK475.out)
       have n1_ := Aside0.mk (blk_drew BK477.out)
       have n2_ := Aside0.mk (below_drew1 HB.out)
       clear BK475
       clear BK477
       clear HB
       have BK475 := n0_
       have BK477 := n1_
       have HB := n2_
       clear n0_ n1_ n2_
       refine start_ (n := 34) (S := fun w' => w'.cell? ⟨gb477, 0, none⟩ = some (.int .i64 ((rd_T149 l0_3 x3_1).f0)) ∧ w'.cell? ⟨gb477, 1, none⟩ = some (.slice A476_1 ((rd_T149 l0_3 x3_1).f1).length c476_1) ∧ w'.cell? ⟨gb477, 2, none⟩ = some (.slice A476_2 ((rd_T149 l0_3 x3_1).f2).length c476_2) ∧ w'.cell? ⟨gb475, 0, none⟩ = some (.slice A0_0 l0_0.length c0_0) ∧ w'.cell? ⟨gb475, 1, none⟩ = some (.slice A0_1 l0_1.length c0_1) ∧ w'.cell? ⟨gb475, 2, none⟩ = some (.slice A0_2 l0_2.length c0_2) ∧ w'.cell? ⟨gb475, 3, none⟩ = some (.slice (some ad476) l0_3.length c0_3) ∧ w'.cell? ⟨gb475, 4, none⟩ = some (.slice A0_4 l0_4.length c0_4)) (ds := []) #[false, false, false, false, false, false, false, false, false, false, false, false, false, false, false, false, false, false, false, false, false, false, false, false, false, false, false, false, false, false, false, false, false, false] (by kernel_rfl) rfl rfl ⟨(blk_cell BK477.out 0).trans rfl, (blk_cell BK477.out 1).trans rfl, (blk_cell BK477.out 2).trans rfl, (blk_cell BK475.out 0).trans rfl, (blk_cell BK475.out 1).trans rfl, (blk_cell BK475.out 2).trans rfl, (blk_cell BK475.out 3).trans rfl, (blk_cell BK475.out 4).trans rfl⟩ (fun hHeld => ?_); refine with_tabW spec_l14Joints.tab5 spec_l14Joints.bits5 (fun HT_ HW_ => ?_)
       generalize w24.drew = w25 at BK475 BK477 HB hHeld ⊢
       refine pureS (i := 0) (N := some 17) (any_of HT_.out (by kernel_rfl)) ?_
       refine pureS (i := 2) (N := some 19) (any_of HT_.out (by kernel_rfl)) ?_
       refine takeS (i := 1) (N := some 18) (take_ofW HT_.out HW_.out (by kernel_rfl)) hHeld ?_
       refine takeS (i := 3) (N := some 20) (take_ofW HT_.out HW_.out (by kernel_rfl)) hHeld ?_
       refine pureS (i := 4) (N := some 21) (any_of HT_.out (by kernel_rfl)) ?_
       refine pureS (i := 5) (N := some 22) (any_of HT_.out (by kernel_rfl)) ?_
       refine one_ (i := 6) (N := some 23) #[true, true, true, true, true, true, true, false, false, false, false, false, false, false, false, false, false, false, false, false, false, false, false, false, false, false, false, false, false, false, false, false, false, false] rfl rfl (one_of HT_.out (by kernel_rfl)) (by decide) (fun K hK => ?_)
       refine goes_ Tryd.func74 (by kernel_rfl) rfl #[.int .i64 ((rd_T149 l0_3 x3_1).f0), .int .i64 0, .int .i64 (wrap64 ((l0_0.length : Int) - 1))] (by rfl) rfl rfl (by (try simp only [List.map_toArray, List.map_cons, List.map_nil]); first | done | rfl | (simp only [List.length_drop, List.length_take]; rfl)) ?_
       with_reducible refine (spec_l01In.calls ((rd_T149 l0_3 x3_1).f0) 0 (wrap64 ((l0_0.length : Int) - 1)) false _ A10.out).mono ?_
       rintro e w' ⟨rfl, ⟨nd, rfl⟩⟩
       refine ⟨_, rfl, ?_⟩
       refine hK.out _ _ ⟨(blk_cell BK477.out 0).trans rfl, (blk_cell BK477.out 1).trans rfl, (blk_cell BK477.out 2).trans rfl, (blk_cell BK475.out 0).trans rfl, (blk_cell BK475.out 1).trans rfl, (blk_cell BK475.out 2).trans rfl, (blk_cell BK475.out 3).trans rfl, (blk_cell BK475.out 4).trans rfl⟩ (fun hHeld => ?_)
       clear hK K
       refine norm_ (a' := ?_) ?_ ?_
       rotate_left
       ·show Act.put _ (some 23) _ = _
        simp only [Act.put, List.setIfInBounds_toArray, List.set_cons_zero, List.set_cons_succ, i64_w, i32_w]
        rfl
       refine pureS (i := 7) (N := some 24) (any_of HT_.out (by kernel_rfl)) ?_
       refine pureS (i := 8) (N := some 25) (any_of HT_.out (by kernel_rfl)) ?_
       refine pureU (i := 9) (N := some 26) (any_of HT_.out (by kernel_rfl)) ?_
       refine pureU (i := 10) (N := some 27) (any_of HT_.out (by kernel_rfl)) ?_
       refine pureU (i := 11) (N := some 28) (any_of HT_.out (by kernel_rfl)) ?_
       refine pureU (i := 12) (N := some 29) (any_of HT_.out (by kernel_rfl)) ?_
       refine pureU (i := 13) (N := some 30) (any_of HT_.out (by kernel_rfl)) ?_
       refine pureU (i := 14) (N := some 31) (any_of HT_.out (by kernel_rfl)) ?_
       refine pureU (i := 15) (N := some 32) (any_of HT_.out (by kernel_rfl)) ?_
       refine pureU (i := 16) (N := some 33) (any_of HT_.out (by kernel_rfl)) ?_
       refine pureU (i := 17) (N := some 34) (any_of HT_.out (by kernel_rfl)) ?_
       refine pureU (i := 18) (N := some 35) (any_of HT_.out (by kernel_rfl)) ?_
       refine pureU (i := 19) (N := some 36) (any_of HT_.out (by kernel_rfl)) ?_
       refine pureS (i := 20) (N := some 37) (any_of HT_.out (by kernel_rfl)) ?_
       refine pureS (i := 21) (N := some 38) (any_of HT_.out (by kernel_rfl)) ?_
       refine pureU (i := 22) (N := some 39) (any_of HT_.out (by kernel_rfl)) ?_
       refine pureU (i := 23) (N := some 40) (any_of HT_.out (by kernel_rfl)) ?_
       refine pureU (i := 24) (N := some 41) (any_of HT_.out (by kernel_rfl)) ?_
       refine pureU (i := 25) (N := some 42) (any_of HT_.out (by kernel_rfl)) ?_
       refine pureU (i := 26) (N := some 43) (any_of HT_.out (by kernel_rfl)) ?_
       refine pureU (i := 27) (N := some 44) (any_of HT_.out (by kernel_rfl)) ?_
       refine pureU (i := 28) (N := some 45) (any_of HT_.out (by kernel_rfl)) ?_
       refine pureU (i := 29) (N := some 46) (any_of HT_.out (by kernel_rfl)) ?_
       refine pureU (i := 30) (N := some 47) (any_of HT_.out (by kernel_rfl)) ?_
       refine pureU (i := 31) (N := some 48) (any_of HT_.out (by kernel_rfl)) ?_
       refine pureU (i := 32) (N := some 49) (any_of HT_.out (by kernel_rfl)) ?_
       refine pureS (i := 33) (N := some 50) (any_of HT_.out (by kernel_rfl)) ?_
       refine done_ (done_of HT_.out (by kernel_rfl)) ?_
       try go_wp2
       go_meet
       case rel => exact ⟨_, (true), (eW), H', ⟨by have := HK1.out; first | omega | exact Nat.le_refl _⟩, ⟨(bP BK475.out)⟩, ⟨(bP BK477.out)⟩, ⟨bW⟩⟩
     case rest =>
      clear HC5
      try clear c1
      try clear p2
      try clear c4
      try clear p4
      try clear q4
      try clear hx4
      try clear p6
      try clear c7
      try clear c11
      try clear c12
      try clear c13
      try clear c15
      try clear hx479_0
      try clear p479
      try clear q479
      obtain ⟨kq, x50_4, rfl, HA, HJ4, BK475, BK477, HB⟩ := hcut
      cases kq with
      | zero => exact absurd HA.out (by simp [spec_l14Joints.j1])
      | succ kj4 =>
       have H := HA.out
       clear HA
       simp only [spec_l14Joints.j1] at H
       by_cases c26 : x50_4 = true
       ·subst c26
        have H1 : (some false) = some r := by rw [if_pos rfl] at H; exact H
        clear H
        have H := H1
        clear H1
        obtain rfl := Option.some.inj H
        go_wp2
        go_ret
        exact ⟨eW, bW⟩
       ·replace c26 := Bool.eq_false_iff.mpr c26
        subst c26
        have H1 : (if x3_1 > 0 then (if 0 ≤ (wrap64 (x3_1 - 1)) then (if (wrap64 (x3_1 - 1)) < (l0_3.length : Int) then (if ((rd_T149 l0_3 x3_1).f0) < ((rd_T149 l0_3 (wrap64 (x3_1 - 1))).f0) then (some false) else (if ((rd_T149 l0_3 x3_1).f0) = ((rd_T149 l0_3 (wrap64 (x3_1 - 1))).f0) then ((spec_l01Less.f kj4 ((rd_T149 l0_3 (wrap64 (x3_1 - 1))).f1) ((rd_T149 l0_3 x3_1).f1)).bind fun t486 => (if t486 = true then (spec_l14Joints.l0 kj4 (wrap64 (x3_1 + 1)) l0_0 l0_1 l0_2 l0_3 l0_4) else (some false))) else (spec_l14Joints.l0 kj4 (wrap64 (x3_1 + 1)) l0_0 l0_1 l0_2 l0_3 l0_4))) else (none)) else (none)) else (spec_l14Joints.l0 kj4 (wrap64 (x3_1 + 1)) l0_0 l0_1 l0_2 l0_3 l0_4)) = some r := by rw [if_neg (show ¬ (false = true) by decide)] at H; exact H
        clear H
        have H := H1
        clear H1
        by_cases c27 : x3_1 > 0
        ·rw [if_pos c27] at H
         have c27b0 : decide (0 < x3_1) = true := decide_eq_true c27
         clear c27
         obtain ⟨ji28, hji28⟩ : ∃ j_ : Int, (wrap64 (x3_1 - 1)) = j_ := ⟨_, rfl⟩
         replace H : (if 0 ≤ (ji28) then (if (ji28) < (l0_3.length : Int) then (if ((rd_T149 l0_3 x3_1).f0) < ((rd_T149 l0_3 (ji28)).f0) then (some false) else (if ((rd_T149 l0_3 x3_1).f0) = ((rd_T149 l0_3 (ji28)).f0) then ((spec_l01Less.f kj4 ((rd_T149 l0_3 (ji28)).f1) ((rd_T149 l0_3 x3_1).f1)).bind fun t486 => (if t486 = true then (spec_l14Joints.l0 kj4 (wrap64 (x3_1 + 1)) l0_0 l0_1 l0_2 l0_3 l0_4) else (some false))) else (spec_l14Joints.l0 kj4 (wrap64 (x3_1 + 1)) l0_0 l0_1 l0_2 l0_3 l0_4))) else (none)) else (none)) = some r := by first | (rw [hji28] at H; exact H) | (simp only [hji28] at H ⊢; exact H)
         have hji28w : (IntKind.i64.wrap (x3_1 - 1)) = ji28 := (i64_w _).trans hji28
         by_cases c29 : 0 ≤ (ji28)
         ·rw [if_pos c29] at H
          have c29b0 : decide (0 ≤ (ji28)) = true := decide_eq_true c29
          clear c29
          by_cases c30 : (ji28) < (l0_3.length : Int)
          ·rw [if_pos c30] at H
           have c30b0 : decide ((ji28) < (l0_3.length : Int)) = true := decide_eq_true c30
           clear c30
           by_cases c31 : ((rd_T149 l0_3 x3_1).f0) < ((rd_T149 l0_3 (ji28)).f0)
           ·rw [if_pos c31] at H
            have c31b0 : decide (((rd_T149 l0_3 x3_1).f0) < ((rd_T149 l0_3 (ji28)).f0)) = true := decide_eq_true c31
            clear c31
            obtain rfl := Option.some.inj H
            try go_wp2
            have n0_ := Aside0.mk (blk_drew BK475.out)
            have n1_ := Aside0.mk (blk_drew BK477.out)
            have n2_ := Aside0.mk (below_drew1 HB.out)
            clear BK475
            clear BK477
            clear HB
            have BK475 := n0_
            have BK477 := n1_
            have HB := n2_
            clear n0_ n1_ n2_
            have p483 : 0 ≤ ((ji28) : Int) := ofD
            have q483 : (ji28) < (l0_3.length : Int) := ofD
            obtain ⟨ad483, A483_1, c483_1, A483_2, c483_2, e483, hx483_0, hx483_1, hx483_2, hl483_1, hi483_1, hl483_2, hi483_2⟩ := at_T149 HR0_3.out (ji28) p483 q483
            have hw483_2 := hx483_2
            have hw483_1 := hx483_1
            have hw483_0 := hx483_0
            obtain rfl : ad476 = ad483 := (by injection e483)
            replace hx483_0 := (HB.out.cell (World.block_lt_of_cell? w _ hx483_0)).trans hx483_0
            replace hx483_1 := (HB.out.cell (World.block_lt_of_cell? w _ hx483_1)).trans hx483_1
            replace hx483_2 := (HB.out.cell (World.block_lt_of_cell? w _ hx483_2)).trans hx483_2
            have HR483_1 := Aside0.mk hi483_1
            have HC483_1 := Aside0.mk hl483_1
            clear hi483_1 hl483_1
            have HR483_2 := Aside0.mk hi483_2
            have HC483_2 := Aside0.mk hl483_2
            clear hi483_2 hl483_2
            replace p483 := eq_true p483
            replace q483 := eq_true q483
            refine start_ (n := 39) (S := fun w' => w'.cell? ⟨gb477, 0, none⟩ = some (.int .i64 ((rd_T149 l0_3 x3_1).f0)) ∧ w'.cell? ⟨gb477, 1, none⟩ = some (.slice A476_1 ((rd_T149 l0_3 x3_1).f1).length c476_1) ∧ w'.cell? ⟨gb477, 2, none⟩ = some (.slice A476_2 ((rd_T149 l0_3 x3_1).f2).length c476_2) ∧ w'.cell? ⟨gb475, 0, none⟩ = some (.slice A0_0 l0_0.length c0_0) ∧ w'.cell? ⟨gb475, 1, none⟩ = some (.slice A0_1 l0_1.length c0_1) ∧ w'.cell? ⟨gb475, 2, none⟩ = some (.slice A0_2 l0_2.length c0_2) ∧ w'.cell? ⟨gb475, 3, none⟩ = some (.slice (some ad476) l0_3.length c0_3) ∧ w'.cell? ⟨gb475, 4, none⟩ = some (.slice A0_4 l0_4.length c0_4) ∧ w'.cell? (ad476.add (((ji28)).toNat * 3)) = some (.int .i64 ((rd_T149 l0_3 (ji28)).f0)) ∧ w'.cell? ⟨(ad476.add (((ji28)).toNat * 3)).block, (ad476.add (((ji28)).toNat * 3)).off + 1, none⟩ = some (.slice A483_1 ((rd_T149 l0_3 (ji28)).f1).length c483_1) ∧ w'.cell? ⟨(ad476.add (((ji28)).toNat * 3)).block, (ad476.add (((ji28)).toNat * 3)).off + 2, none⟩ = some (.slice A483_2 ((rd_T149 l0_3 (ji28)).f2).length c483_2)) (ds := []) #[false, false, false, false, false, false, false, false, false, false, false, false, false, false, false, false, false, false, false, false, false, false, false, false, false, false, false, false, false, false, false, false, false, false, false, false, false, false, false] (by kernel_rfl) rfl rfl ⟨(blk_cell BK477.out 0).trans rfl, (blk_cell BK477.out 1).trans rfl, (blk_cell BK477.out 2).trans rfl, (blk_cell BK475.out 0).trans rfl, (blk_cell BK475.out 1).trans rfl, (blk_cell BK475.out 2).trans rfl, (blk_cell BK475.out 3).trans rfl, (blk_cell BK475.out 4).trans rfl, ((HB.out.cell (World.block_lt_of_cell? w _ hw483_0)).trans hw483_0), ((HB.out.cell (World.block_lt_of_cell? w _ hw483_1)).trans hw483_1), ((HB.out.cell (World.block_lt_of_cell? w _ hw483_2)).trans hw483_2)⟩ (fun hHeld => ?_); refine with_tabW spec_l14Joints.tab7 spec_l14Joints.bits7 (fun HT_ HW_ => ?_)
            generalize wc.drew = w32 at BK475 BK477 HB HR483_1 HR483_2 hx483_0 hx483_1 hx483_2 hHeld ⊢
            refine pureS (i := 0) (N := some 51) (any_of HT_.out (by kernel_rfl)) ?_
            refine pureS (i := 1) (N := some 52) (any_of HT_.out (by kernel_rfl)) ?_
            refine pureS (i := 2) (N := some 53) (any_of HT_.out (by kernel_rfl)) ?_
            refine pureS (i := 3) (N := some 54) (any_of HT_.out (by kernel_rfl)) ?_
            refine pureS (i := 5) (N := some 56) (any_of HT_.out (by kernel_rfl)) ?_
            refine pureS (i := 7) (N := some 58) (any_of HT_.out (by kernel_rfl)) ?_
            refine pureS (i := 8) (N := some 59) (any_of HT_.out (by kernel_rfl)) ?_
            refine takeS (i := 4) (N := some 55) (take_ofW HT_.out HW_.out (by kernel_rfl)) hHeld ?_
            refine takeS (i := 6) (N := some 57) (take_ofW HT_.out HW_.out (by kernel_rfl)) hHeld ?_
            refine pureS (i := 9) (N := some 60) (any_of HT_.out (by kernel_rfl)) ?_
            refine pureS (i := 10) (N := some 61) (any_of HT_.out (by kernel_rfl)) ?_
            refine takeS (i := 11) (N := some 62) (take_ofW HT_.out HW_.out (by kernel_rfl)) hHeld ?_
            refine pureS (i := 12) (N := some 63) (any_of HT_.out (by kernel_rfl)) ?_
            refine pureS (i := 13) (N := some 64) (any_of HT_.out (by kernel_rfl)) ?_
            refine pureU (i := 14) (N := some 65) (any_of HT_.out (by kernel_rfl)) ?_
            refine pureU (i := 15) (N := some 66) (any_of HT_.out (by kernel_rfl)) ?_
            refine pureU (i := 16) (N := some 67) (any_of HT_.out (by kernel_rfl)) ?_
            refine pureU (i := 17) (N := some 68) (any_of HT_.out (by kernel_rfl)) ?_
            refine pureU (i := 18) (N := some 69) (any_of HT_.out (by kernel_rfl)) ?_
            refine pureU (i := 19) (N := some 70) (any_of HT_.out (by kernel_rfl)) ?_
            refine pureU (i := 20) (N := some 71) (any_of HT_.out (by kernel_rfl)) ?_
            refine pureU (i := 21) (N := some 72) (any_of HT_.out (by kernel_rfl)) ?_
            refine pureU (i := 22) (N := some 73) (any_of HT_.out (by kernel_rfl)) ?_
            refine pureU (i := 23) (N := some 74) (any_of HT_.out (by kernel_rfl)) ?_
            refine pureU (i := 24) (N := some 75) (any_of HT_.out (by kernel_rfl)) ?_
            refine pureU (i := 25) (N := some 76) (any_of HT_.out (by kernel_rfl)) ?_
            refine pureU (i := 26) (N := some 77) (any_of HT_.out (by kernel_rfl)) ?_
            refine pureU (i := 27) (N := some 78) (any_of HT_.out (by kernel_rfl)) ?_
            refine pureU (i := 28) (N := some 79) (any_of HT_.out (by kernel_rfl)) ?_
            refine pureU (i := 29) (N := some 80) (any_of HT_.out (by kernel_rfl)) ?_
            refine pureU (i := 30) (N := some 81) (any_of HT_.out (by kernel_rfl)) ?_
            refine pureU (i := 31) (N := some 82) (any_of HT_.out (by kernel_rfl)) ?_
            refine pureU (i := 32) (N := some 83) (any_of HT_.out (by kernel_rfl)) ?_
            refine pureU (i := 33) (N := some 84) (any_of HT_.out (by kernel_rfl)) ?_
            refine pureU (i := 34) (N := some 85) (any_of HT_.out (by kernel_rfl)) ?_
            refine pureU (i := 35) (N := some 86) (any_of HT_.out (by kernel_rfl)) ?_
            refine pureU (i := 36) (N := some 87) (any_of HT_.out (by kernel_rfl)) ?_
            refine pureS (i := 37) (N := some 88) (any_of HT_.out (by kernel_rfl)) ?_
            refine pureS (i := 38) (N := some 89) (any_of HT_.out (by kernel_rfl)) ?_
            refine done_ (done_of HT_.out (by kernel_rfl)) ?_
            try go_wp2
            go_ret
            exact ⟨by first | rfl | (simp [errW_none, errW_some] <;> rfl) | (simp only [← hji28]; first | rfl | (simp [errW_none, errW_some] <;> rfl)) | (simp [*, errW_none, errW_some] <;> rfl), bW⟩
           ·rw [if_neg c31] at H
            have c31b0 : decide (((rd_T149 l0_3 x3_1).f0) < ((rd_T149 l0_3 (ji28)).f0)) = false := decide_eq_false c31
            clear c31
            by_cases c33 : ((rd_T149 l0_3 x3_1).f0) = ((rd_T149 l0_3 (ji28)).f0)
            ·rw [if_pos c33] at H
             have c33b0 : (((rd_T149 l0_3 x3_1).f0) == ((rd_T149 l0_3 (ji28)).f0)) = true := beq_iff_eq.mpr c33
             have c33b1 : (((rd_T149 l0_3 x3_1).f0) != ((rd_T149 l0_3 (ji28)).f0)) = false := bne_eq_false_iff_eq.mpr c33
             clear c33
             replace H := Option.bind_eq_some_iff.mp H
             obtain ⟨t486, A340, H⟩ := H
             replace H : (if t486 = true then (spec_l14Joints.l0 kj4 (wrap64 (x3_1 + 1)) l0_0 l0_1 l0_2 l0_3 l0_4) else (some false)) = some r := H
             have A34 := Aside0.mk A340
             clear A340
             by_cases c35 : t486 = true
             ·subst c35
              have H1 : (spec_l14Joints.l0 kj4 (wrap64 (x3_1 + 1)) l0_0 l0_1 l0_2 l0_3 l0_4) = some r := by rw [if_pos rfl] at H; exact H
              clear H
              have H := H1
              clear H1
              have H' := Aside0.mk H
              clear H
              try go_wp2
              have n0_ := Aside0.mk (blk_drew BK475.out)
              have n1_ := Aside0.mk (blk_drew BK477.out)
              have n2_ := Aside0.mk (below_drew1 HB.out)
              clear BK475
              clear BK477
              clear HB
              have BK475 := n0_
              have BK477 := n1_
              have HB := n2_
              clear n0_ n1_ n2_
              have p483 : 0 ≤ ((ji28) : Int) := ofD
              have q483 : (ji28) < (l0_3.length : Int) := ofD
              obtain ⟨ad483, A483_1, c483_1, A483_2, c483_2, e483, hx483_0, hx483_1, hx483_2, hl483_1, hi483_1, hl483_2, hi483_2⟩ := at_T149 HR0_3.out (ji28) p483 q483
              have hw483_2 := hx483_2
              have hw483_1 := hx483_1
              have hw483_0 := hx483_0
              obtain rfl : ad476 = ad483 := (by injection e483)
              replace hx483_0 := (HB.out.cell (World.block_lt_of_cell? w _ hx483_0)).trans hx483_0
              replace hx483_1 := (HB.out.cell (World.block_lt_of_cell? w _ hx483_1)).trans hx483_1
              replace hx483_2 := (HB.out.cell (World.block_lt_of_cell? w _ hx483_2)).trans hx483_2
              have HR483_1 := Aside0.mk hi483_1
              have HC483_1 := Aside0.mk hl483_1
              clear hi483_1 hl483_1
              have HR483_2 := Aside0.mk hi483_2
              have HC483_2 := Aside0.mk hl483_2
              clear hi483_2 hl483_2
              replace p483 := eq_true p483
              replace q483 := eq_true q483
              have p484 : 0 ≤ ((ji28) : Int) := ofD
              have q484 : (ji28) < (l0_3.length : Int) := ofD
              obtain ⟨ad484, A484_1, c484_1, A484_2, c484_2, e484, hx484_0, hx484_1, hx484_2, hl484_1, hi484_1, hl484_2, hi484_2⟩ := at_T149 HR0_3.out (ji28) p484 q484
              have hw484_2 := hx484_2
              have hw484_1 := hx484_1
              have hw484_0 := hx484_0
              obtain rfl : ad476 = ad484 := (by injection e484)
              replace hx484_0 := (HB.out.cell (World.block_lt_of_cell? w _ hx484_0)).trans hx484_0
              replace hx484_1 := (HB.out.cell (World.block_lt_of_cell? w _ hx484_1)).trans hx484_1
              replace hx484_2 := (HB.out.cell (World.block_lt_of_cell? w _ hx484_2)).trans hx484_2
              have HR484_1 := Aside0.mk hi484_1
              have HC484_1 := Aside0.mk hl484_1
              clear hi484_1 hl484_1
              have HR484_2 := Aside0.mk hi484_2
              have HC484_2 := Aside0.mk hl484_2
              clear hi484_2 hl484_2
              replace p484 := eq_true p484
              replace q484 := eq_true q484
              have ea_ := Option.some.inj (hx483_1.symm.trans hx484_1)
              injection ea_ with ea_ en_ ec_
              subst ea_
              subst ec_
              clear en_
              have ea_ := Option.some.inj (hx483_2.symm.trans hx484_2)
              injection ea_ with ea_ en_ ec_
              subst ea_
              subst ec_
              clear en_
              have p485 : 0 ≤ ((ji28) : Int) := ofD
              have q485 : (ji28) < (l0_3.length : Int) := ofD
              obtain ⟨ad485, A485_1, c485_1, A485_2, c485_2, e485, hx485_0, hx485_1, hx485_2, hl485_1, hi485_1, hl485_2, hi485_2⟩ := at_T149 HR0_3.out (ji28) p485 q485
              have hw485_2 := hx485_2
              have hw485_1 := hx485_1
              have hw485_0 := hx485_0
              obtain rfl : ad476 = ad485 := (by injection e485)
              replace hx485_0 := (HB.out.cell (World.block_lt_of_cell? w _ hx485_0)).trans hx485_0
              replace hx485_1 := (HB.out.cell (World.block_lt_of_cell? w _ hx485_1)).trans hx485_1
              replace hx485_2 := (HB.out.cell (World.block_lt_of_cell? w _ hx485_2)).trans hx485_2
              have HR485_1 := Aside0.mk hi485_1
              have HC485_1 := Aside0.mk hl485_1
              clear hi485_1 hl485_1
              have HR485_2 := Aside0.mk hi485_2
              have HC485_2 := Aside0.mk hl485_2
              clear hi485_2 hl485_2
              replace p485 := eq_true p485
              replace q485 := eq_true q485
              have ea_ := Option.some.inj (hx483_1.symm.trans hx485_1)
              injection ea_ with ea_ en_ ec_
              subst ea_
              subst ec_
              clear en_
              have ea_ := Option.some.inj (hx483_2.symm.trans hx485_2)
              injection ea_ with ea_ en_ ec_
              subst ea_
              subst ec_
              clear en_
              refine start_ (n := 39) (S := fun w' => w'.cell? ⟨gb477, 0, none⟩ = some (.int .i64 ((rd_T149 l0_3 x3_1).f0)) ∧ w'.cell? ⟨gb477, 1, none⟩ = some (.slice A476_1 ((rd_T149 l0_3 x3_1).f1).length c476_1) ∧ w'.cell? ⟨gb477, 2, none⟩ = some (.slice A476_2 ((rd_T149 l0_3 x3_1).f2).length c476_2) ∧ w'.cell? ⟨gb475, 0, none⟩ = some (.slice A0_0 l0_0.length c0_0) ∧ w'.cell? ⟨gb475, 1, none⟩ = some (.slice A0_1 l0_1.length c0_1) ∧ w'.cell? ⟨gb475, 2, none⟩ = some (.slice A0_2 l0_2.length c0_2) ∧ w'.cell? ⟨gb475, 3, none⟩ = some (.slice (some ad476) l0_3.length c0_3) ∧ w'.cell? ⟨gb475, 4, none⟩ = some (.slice A0_4 l0_4.length c0_4) ∧ w'.cell? (ad476.add (((ji28)).toNat * 3)) = some (.int .i64 ((rd_T149 l0_3 (ji28)).f0)) ∧ w'.cell? ⟨(ad476.add (((ji28)).toNat * 3)).block, (ad476.add (((ji28)).toNat * 3)).off + 1, none⟩ = some (.slice A483_1 ((rd_T149 l0_3 (ji28)).f1).length c483_1) ∧ w'.cell? ⟨(ad476.add (((ji28)).toNat * 3)).block, (ad476.add (((ji28)).toNat * 3)).off + 2, none⟩ = some (.slice A483_2 ((rd_T149 l0_3 (ji28)).f2).length c483_2) ∧ w'.cell? (ad476.add (((ji28)).toNat * 3)) = some (.int .i64 ((rd_T149 l0_3 (ji28)).f0)) ∧ w'.cell? ⟨(ad476.add (((ji28)).toNat * 3)).block, (ad476.add (((ji28)).toNat * 3)).off + 1, none⟩ = some (.slice A483_1 ((rd_T149 l0_3 (ji28)).f1).length c483_1) ∧ w'.cell? ⟨(ad476.add (((ji28)).toNat * 3)).block, (ad476.add (((ji28)).toNat * 3)).off + 2, none⟩ = some (.slice A483_2 ((rd_T149 l0_3 (ji28)).f2).length c483_2) ∧ w'.cell? (ad476.add (((ji28)).toNat * 3)) = some (.int .i64 ((rd_T149 l0_3 (ji28)).f0)) ∧ w'.cell? ⟨(ad476.add (((ji28)).toNat * 3)).block, (ad476.add (((ji28)).toNat * 3)).off + 1, none⟩ = some (.slice A483_1 ((rd_T149 l0_3 (ji28)).f1).length c483_1) ∧ w'.cell? ⟨(ad476.add (((ji28)).toNat * 3)).block, (ad476.add (((ji28)).toNat * 3)).off + 2, none⟩ = some (.slice A483_2 ((rd_T149 l0_3 (ji28)).f2).length c483_2)) (ds := []) #[false, false, false, false, false, false, false, false, false, false, false, false, false, false, false, false, false, false, false, false, false, false, false, false, false, false, false, false, false, false, false, false, false, false, false, false, false, false, false] (by kernel_rfl) rfl rfl ⟨(blk_cell BK477.out 0).trans rfl, (blk_cell BK477.out 1).trans rfl, (blk_cell BK477.out 2).trans rfl, (blk_cell BK475.out 0).trans rfl, (blk_cell BK475.out 1).trans rfl, (blk_cell BK475.out 2).trans rfl, (blk_cell BK475.out 3).trans rfl, (blk_cell BK475.out 4).trans rfl, ((HB.out.cell (World.block_lt_of_cell? w _ hw483_0)).trans hw483_0), ((HB.out.cell (World.block_lt_of_cell? w _ hw483_1)).trans hw483_1), ((HB.out.cell (World.block_lt_of_cell? w _ hw483_2)).trans hw483_2), ((HB.out.cell (World.block_lt_of_cell? w _ hw484_0)).trans hw484_0), ((HB.out.cell (World.block_lt_of_cell? w _ hw484_1)).trans hw484_1), ((HB.out.cell (World.block_lt_of_cell? w _ hw484_2)).trans hw484_2), ((HB.out.cell (World.block_lt_of_cell? w _ hw485_0)).trans hw485_0), ((HB.out.cell (World.block_lt_of_cell? w _ hw485_1)).trans hw485_1), ((HB.out.cell (World.block_lt_of_cell? w _ hw485_2)).trans hw485_2)⟩ (fun hHeld => ?_); refine with_tabW spec_l14Joints.tab7 spec_l14Joints.bits7 (fun HT_ HW_ => ?_)
              generalize wc.drew = w36 at BK475 BK477 HB HR483_1 HR483_2 HR484_1 HR484_2 HR485_1 HR485_2 hx483_0 hx483_1 hx483_2 hx484_0 hx484_1 hx484_2 hx485_0 hx485_1 hx485_2 hHeld ⊢
              refine pureS (i := 0) (N := some 51) (any_of HT_.out (by kernel_rfl)) ?_
              refine pureS (i := 1) (N := some 52) (any_of HT_.out (by kernel_rfl)) ?_
              refine pureS (i := 2) (N := some 53) (any_of HT_.out (by kernel_rfl)) ?_
              refine pureS (i := 3) (N := some 54) (any_of HT_.out (by kernel_rfl)) ?_
              refine pureS (i := 5) (N := some 56) (any_of HT_.out (by kernel_rfl)) ?_
              refine pureS (i := 7) (N := some 58) (any_of HT_.out (by kernel_rfl)) ?_
              refine pureS (i := 8) (N := some 59) (any_of HT_.out (by kernel_rfl)) ?_
              refine takeS (i := 4) (N := some 55) (take_ofW HT_.out HW_.out (by kernel_rfl)) hHeld ?_
              refine takeS (i := 6) (N := some 57) (take_ofW HT_.out HW_.out (by kernel_rfl)) hHeld ?_
              refine pureS (i := 9) (N := some 60) (any_of HT_.out (by kernel_rfl)) ?_
              refine pureS (i := 10) (N := some 61) (any_of HT_.out (by kernel_rfl)) ?_
              refine takeS (i := 11) (N := some 62) (take_ofW HT_.out HW_.out (by kernel_rfl)) hHeld ?_
              refine pureS (i := 12) (N := some 63) (any_of HT_.out (by kernel_rfl)) ?_
              refine pureS (i := 13) (N := some 64) (any_of HT_.out (by kernel_rfl)) ?_
              refine pureS (i := 14) (N := some 65) (any_of HT_.out (by kernel_rfl)) ?_
              refine pureS (i := 16) (N := some 67) (any_of HT_.out (by kernel_rfl)) ?_
              refine pureS (i := 18) (N := some 69) (any_of HT_.out (by kernel_rfl)) ?_
              refine pureS (i := 19) (N := some 70) (any_of HT_.out (by kernel_rfl)) ?_
              refine takeS (i := 15) (N := some 66) (take_ofW HT_.out HW_.out (by kernel_rfl)) hHeld ?_
              refine takeS (i := 17) (N := some 68) (take_ofW HT_.out HW_.out (by kernel_rfl)) hHeld ?_
              refine pureS (i := 20) (N := some 71) (any_of HT_.out (by kernel_rfl)) ?_
              refine pureS (i := 21) (N := some 72) (any_of HT_.out (by kernel_rfl)) ?_
              refine takeS (i := 22) (N := some 73) (take_ofW HT_.out HW_.out (by kernel_rfl)) hHeld ?_
              refine pureS (i := 23) (N := some 74) (any_of HT_.out (by kernel_rfl)) ?_
              refine pureS (i := 24) (N := some 75) (any_of HT_.out (by kernel_rfl)) ?_
              refine pureS (i := 25) (N := some 76) (any_of HT_.out (by kernel_rfl)) ?_
              refine pureS (i := 27) (N := some 78) (any_of HT_.out (by kernel_rfl)) ?_
              refine pureS (i := 28) (N := some 79) (any_of HT_.out (by kernel_rfl)) ?_
              refine pureS (i := 32) (N := some 83) (any_of HT_.out (by kernel_rfl)) ?_
              refine takeS (i := 26) (N := some 77) (take_ofW HT_.out HW_.out (by kernel_rfl)) hHeld ?_
              refine pureS (i := 29) (N := some 80) (any_of HT_.out (by kernel_rfl)) ?_
              refine pureS (i := 30) (N := some 81) (any_of HT_.out (by kernel_rfl)) ?_
              refine takeS (i := 31) (N := some 82) (take_ofW HT_.out HW_.out (by kernel_rfl)) hHeld ?_
              refine takeS (i := 33) (N := some 84) (take_ofW HT_.out HW_.out (by kernel_rfl)) hHeld ?_
              refine one_ (i := 34) (N := some 85) #[true, true, true, true, true, true, true, true, true, true, true, true, true, true, true, true, true, true, true, true, true, true, true, true, true, true, true, true, true, true, true, true, true, true, true, false, false, false, false] rfl rfl (one_of HT_.out (by kernel_rfl)) (by decide) (fun K hK => ?_)
              refine goes_ Tryd.func77 (by kernel_rfl) rfl #[.slice A483_1 ((rd_T149 l0_3 (ji28)).f1).length c483_1, .slice A476_1 ((rd_T149 l0_3 x3_1).f1).length c476_1] (by rfl) rfl rfl (by (try simp only [List.map_toArray, List.map_cons, List.map_nil]); first | done | (simp only [hji28]; rfl) | rfl | (simp only [List.length_drop, List.length_take]; rfl)) ?_
              with_reducible refine (spec_l01Less.calls kj4 _ _ ((rd_T149 l0_3 (ji28)).f1) _ _ ((rd_T149 l0_3 x3_1).f1) true _ ?side1 ?side2 ?side3 ?side4 A34.out).mono ?_
              (case side1 => exact cP (Kd.C_below HR485_1.out HB.out))
              (case side2 => exact HC485_1.out)
              (case side3 => exact cP (Kd.C_below HR476_1.out HB.out))
              (case side4 => exact HC476_1.out)
              rintro e w' ⟨rfl, ⟨nd, rfl⟩⟩
              refine ⟨_, rfl, ?_⟩
              refine hK.out _ _ ⟨(blk_cell BK477.out 0).trans rfl, (blk_cell BK477.out 1).trans rfl, (blk_cell BK477.out 2).trans rfl, (blk_cell BK475.out 0).trans rfl, (blk_cell BK475.out 1).trans rfl, (blk_cell BK475.out 2).trans rfl, (blk_cell BK475.out 3).trans rfl, (blk_cell BK475.out 4).trans rfl, ((HB.out.cell (World.block_lt_of_cell? w _ hw483_0)).trans hw483_0), ((HB.out.cell (World.block_lt_of_cell? w _ hw483_1)).trans hw483_1), ((HB.out.cell (World.block_lt_of_cell? w _ hw483_2)).trans hw483_2), ((HB.out.cell (World.block_lt_of_cell? w _ hw484_0)).trans hw484_0), ((HB.out.cell (World.block_lt_of_cell? w _ hw484_1)).trans hw484_1), ((HB.out.cell (World.block_lt_of_cell? w _ hw484_2)).trans hw484_2), ((HB.out.cell (World.block_lt_of_cell? w _ hw485_0)).trans hw485_0), ((HB.out.cell (World.block_lt_of_cell? w _ hw485_1)).trans hw485_1), ((HB.out.cell (World.block_lt_of_cell? w _ hw485_2)).trans hw485_2)⟩ (fun hHeld => ?_)
              clear hK K
              refine norm_ (a' := ?_) ?_ ?_
              rotate_left
              ·show Act.put _ (some 85) _ = _
               simp only [Act.put, List.setIfInBounds_toArray, List.set_cons_zero, List.set_cons_succ, i64_w, i32_w]
               rfl
              refine pureS (i := 35) (N := some 86) (any_of HT_.out (by kernel_rfl)) ?_
              refine pureS (i := 36) (N := some 87) (any_of HT_.out (by kernel_rfl)) ?_
              refine pureS (i := 37) (N := some 88) (any_of HT_.out (by kernel_rfl)) ?_
              refine pureS (i := 38) (N := some 89) (any_of HT_.out (by kernel_rfl)) ?_
              refine done_ (done_of HT_.out (by kernel_rfl)) ?_
              try go_wp2
              go_roundg kj4
              case measure => have := HK1.out; have := HJ4.out; omega
              case rel => exact ⟨(wrap64 (x3_1 + 1)), (eW), H', ⟨by have := HK1.out; have := HJ4.out; omega⟩, ⟨(bP BK475.out)⟩, ⟨bW⟩⟩
             ·replace c35 := Bool.eq_false_iff.mpr c35
              subst c35
              have H1 : (some false) = some r := by rw [if_neg (show ¬ (false = true) by decide)] at H; exact H
              clear H
              have H := H1
              clear H1
              obtain rfl := Option.some.inj H
              try go_wp2
              have n0_ := Aside0.mk (blk_drew BK475.out)
              have n1_ := Aside0.mk (blk_drew BK477.out)
              have n2_ := Aside0.mk (below_drew1 HB.out)
              clear BK475
              clear BK477
              clear HB
              have BK475 := n0_
              have BK477 := n1_
              have HB := n2_
              clear n0_ n1_ n2_
              have p483 : 0 ≤ ((ji28) : Int) := ofD
              have q483 : (ji28) < (l0_3.length : Int) := ofD
              obtain ⟨ad483, A483_1, c483_1, A483_2, c483_2, e483, hx483_0, hx483_1, hx483_2, hl483_1, hi483_1, hl483_2, hi483_2⟩ := at_T149 HR0_3.out (ji28) p483 q483
              have hw483_2 := hx483_2
              have hw483_1 := hx483_1
              have hw483_0 := hx483_0
              obtain rfl : ad476 = ad483 := (by injection e483)
              replace hx483_0 := (HB.out.cell (World.block_lt_of_cell? w _ hx483_0)).trans hx483_0
              replace hx483_1 := (HB.out.cell (World.block_lt_of_cell? w _ hx483_1)).trans hx483_1
              replace hx483_2 := (HB.out.cell (World.block_lt_of_cell? w _ hx483_2)).trans hx483_2
              have HR483_1 := Aside0.mk hi483_1
              have HC483_1 := Aside0.mk hl483_1
              clear hi483_1 hl483_1
              have HR483_2 := Aside0.mk hi483_2
              have HC483_2 := Aside0.mk hl483_2
              clear hi483_2 hl483_2
              replace p483 := eq_true p483
              replace q483 := eq_true q483
              have p484 : 0 ≤ ((ji28) : Int) := ofD
              have q484 : (ji28) < (l0_3.length : Int) := ofD
              obtain ⟨ad484, A484_1, c484_1, A484_2, c484_2, e484, hx484_0, hx484_1, hx484_2, hl484_1, hi484_1, hl484_2, hi484_2⟩ := at_T149 HR0_3.out (ji28) p484 q484
              have hw484_2 := hx484_2
              have hw484_1 := hx484_1
              have hw484_0 := hx484_0
              obtain rfl : ad476 = ad484 := (by injection e484)
              replace hx484_0 := (HB.out.cell (World.block_lt_of_cell? w _ hx484_0)).trans hx484_0
              replace hx484_1 := (HB.out.cell (World.block_lt_of_cell? w _ hx484_1)).trans hx484_1
              replace hx484_2 := (HB.out.cell (World.block_lt_of_cell? w _ hx484_2)).trans hx484_2
              have HR484_1 := Aside0.mk hi484_1
              have HC484_1 := Aside0.mk hl484_1
              clear hi484_1 hl484_1
              have HR484_2 := Aside0.mk hi484_2
              have HC484_2 := Aside0.mk hl484_2
              clear hi484_2 hl484_2
              replace p484 := eq_true p484
              replace q484 := eq_true q484
              have ea_ := Option.some.inj (hx483_1.symm.trans hx484_1)
              injection ea_ with ea_ en_ ec_
              subst ea_
              subst ec_
              clear en_
              have ea_ := Option.some.inj (hx483_2.symm.trans hx484_2)
              injection ea_ with ea_ en_ ec_
              subst ea_
              subst ec_
              clear en_
              have p485 : 0 ≤ ((ji28) : Int) := ofD
              have q485 : (ji28) < (l0_3.length : Int) := ofD
              obtain ⟨ad485, A485_1, c485_1, A485_2, c485_2, e485, hx485_0, hx485_1, hx485_2, hl485_1, hi485_1, hl485_2, hi485_2⟩ := at_T149 HR0_3.out (ji28) p485 q485
              have hw485_2 := hx485_2
              have hw485_1 := hx485_1
              have hw485_0 := hx485_0
              obtain rfl : ad476 = ad485 := (by injection e485)
              replace hx485_0 := (HB.out.cell (World.block_lt_of_cell? w _ hx485_0)).trans hx485_0
              replace hx485_1 := (HB.out.cell (World.block_lt_of_cell? w _ hx485_1)).trans hx485_1
              replace hx485_2 := (HB.out.cell (World.block_lt_of_cell? w _ hx485_2)).trans hx485_2
              have HR485_1 := Aside0.mk hi485_1
              have HC485_1 := Aside0.mk hl485_1
              clear hi485_1 hl485_1
              have HR485_2 := Aside0.mk hi485_2
              have HC485_2 := Aside0.mk hl485_2
              clear hi485_2 hl485_2
              replace p485 := eq_true p485
              replace q485 := eq_true q485
              have ea_ := Option.some.inj (hx483_1.symm.trans hx485_1)
              injection ea_ with ea_ en_ ec_
              subst ea_
              subst ec_
              clear en_
              have ea_ := Option.some.inj (hx483_2.symm.trans hx485_2)
              injection ea_ with ea_ en_ ec_
              subst ea_
              subst ec_
              clear en_
              refine start_ (n := 39) (S := fun w' => w'.cell? ⟨gb477, 0, none⟩ = some (.int .i64 ((rd_T149 l0_3 x3_1).f0)) ∧ w'.cell? ⟨gb477, 1, none⟩ = some (.slice A476_1 ((rd_T149 l0_3 x3_1).f1).length c476_1) ∧ w'.cell? ⟨gb477, 2, none⟩ = some (.slice A476_2 ((rd_T149 l0_3 x3_1).f2).length c476_2) ∧ w'.cell? ⟨gb475, 0, none⟩ = some (.slice A0_0 l0_0.length c0_0) ∧ w'.cell? ⟨gb475, 1, none⟩ = some (.slice A0_1 l0_1.length c0_1) ∧ w'.cell? ⟨gb475, 2, none⟩ = some (.slice A0_2 l0_2.length c0_2) ∧ w'.cell? ⟨gb475, 3, none⟩ = some (.slice (some ad476) l0_3.length c0_3) ∧ w'.cell? ⟨gb475, 4, none⟩ = some (.slice A0_4 l0_4.length c0_4) ∧ w'.cell? (ad476.add (((ji28)).toNat * 3)) = some (.int .i64 ((rd_T149 l0_3 (ji28)).f0)) ∧ w'.cell? ⟨(ad476.add (((ji28)).toNat * 3)).block, (ad476.add (((ji28)).toNat * 3)).off + 1, none⟩ = some (.slice A483_1 ((rd_T149 l0_3 (ji28)).f1).length c483_1) ∧ w'.cell? ⟨(ad476.add (((ji28)).toNat * 3)).block, (ad476.add (((ji28)).toNat * 3)).off + 2, none⟩ = some (.slice A483_2 ((rd_T149 l0_3 (ji28)).f2).length c483_2) ∧ w'.cell? (ad476.add (((ji28)).toNat * 3)) = some (.int .i64 ((rd_T149 l0_3 (ji28)).f0)) ∧ w'.cell? ⟨(ad476.add (((ji28)).toNat * 3)).block, (ad476.add (((ji28)).toNat * 3)).off + 1, none⟩ = some (.slice A483_1 ((rd_T149 l0_3 (ji28)).f1).length c483_1) ∧ w'.cell? ⟨(ad476.add (((ji28)).toNat * 3)).block, (ad476.add (((ji28)).toNat * 3)).off + 2, none⟩ = some (.slice A483_2 ((rd_T149 l0_3 (ji28)).f2).length c483_2) ∧ w'.cell? (ad476.add (((ji28)).toNat * 3)) = some (.int .i64 ((rd_T149 l0_3 (ji28)).f0)) ∧ w'.cell? ⟨(ad476.add (((ji28)).toNat * 3)).block, (ad476.add (((ji28)).toNat * 3)).off + 1, none⟩ = some (.slice A483_1 ((rd_T149 l0_3 (ji28)).f1).length c483_1) ∧ w'.cell? ⟨(ad476.add (((ji28)).toNat * 3)).block, (ad476.add (((ji28)).toNat * 3)).off + 2, none⟩ = some (.slice A483_2 ((rd_T149 l0_3 (ji28)).f2).length c483_2)) (ds := []) #[false, false, false, false, false, false, false, false, false, false, false, false, false, false, false, false, false, false, false, false, false, false, false, false, false, false, false, false, false, false, false, false, false, false, false, false, false, false, false] (by kernel_rfl) rfl rfl ⟨(blk_cell BK477.out 0).trans rfl, (blk_cell BK477.out 1).trans rfl, (blk_cell BK477.out 2).trans rfl, (blk_cell BK475.out 0).trans rfl, (blk_cell BK475.out 1).trans rfl, (blk_cell BK475.out 2).trans rfl, (blk_cell BK475.out 3).trans rfl, (blk_cell BK475.out 4).trans rfl, ((HB.out.cell (World.block_lt_of_cell? w _ hw483_0)).trans hw483_0), ((HB.out.cell (World.block_lt_of_cell? w _ hw483_1)).trans hw483_1), ((HB.out.cell (World.block_lt_of_cell? w _ hw483_2)).trans hw483_2), ((HB.out.cell (World.block_lt_of_cell? w _ hw484_0)).trans hw484_0), ((HB.out.cell (World.block_lt_of_cell? w _ hw484_1)).trans hw484_1), ((HB.out.cell (World.block_lt_of_cell? w _ hw484_2)).trans hw484_2), ((HB.out.cell (World.block_lt_of_cell? w _ hw485_0)).trans hw485_0), ((HB.out.cell (World.block_lt_of_cell? w _ hw485_1)).trans hw485_1), ((HB.out.cell (World.block_lt_of_cell? w _ hw485_2)).trans hw485_2)⟩ (fun hHeld => ?_); refine with_tabW spec_l14Joints.tab7 spec_l14Joints.bits7 (fun HT_ HW_ => ?_)
              generalize wc.drew = w37 at BK475 BK477 HB HR483_1 HR483_2 HR484_1 HR484_2 HR485_1 HR485_2 hx483_0 hx483_1 hx483_2 hx484_0 hx484_1 hx484_2 hx485_0 hx485_1 hx485_2 hHeld ⊢
              refine pureS (i := 0) (N := some 51) (any_of HT_.out (by kernel_rfl)) ?_
              refine pureS (i := 1) (N := some 52) (any_of HT_.out (by kernel_rfl)) ?_
              refine pureS (i := 2) (N := some 53) (any_of HT_.out (by kernel_rfl)) ?_
              refine pureS (i := 3) (N := some 54) (any_of HT_.out (by kernel_rfl)) ?_
              refine pureS (i := 5) (N := some 56) (any_of HT_.out (by kernel_rfl)) ?_
              refine pureS (i := 7) (N := some 58) (any_of HT_.out (by kernel_rfl)) ?_
              refine pureS (i := 8) (N := some 59) (any_of HT_.out (by kernel_rfl)) ?_
              refine takeS (i := 4) (N := some 55) (take_ofW HT_.out HW_.out (by kernel_rfl)) hHeld ?_
              refine takeS (i := 6) (N := some 57) (take_ofW HT_.out HW_.out (by kernel_rfl)) hHeld ?_
              refine pureS (i := 9) (N := some 60) (any_of HT_.out (by kernel_rfl)) ?_
              refine pureS (i := 10) (N := some 61) (any_of HT_.out (by kernel_rfl)) ?_
              refine takeS (i := 11) (N := some 62) (take_ofW HT_.out HW_.out (by kernel_rfl)) hHeld ?_
              refine pureS (i := 12) (N := some 63) (any_of HT_.out (by kernel_rfl)) ?_
              refine pureS (i := 13) (N := some 64) (any_of HT_.out (by kernel_rfl)) ?_
              refine pureS (i := 14) (N := some 65) (any_of HT_.out (by kernel_rfl)) ?_
              refine pureS (i := 16) (N := some 67) (any_of HT_.out (by kernel_rfl)) ?_
              refine pureS (i := 18) (N := some 69) (any_of HT_.out (by kernel_rfl)) ?_
              refine pureS (i := 19) (N := some 70) (any_of HT_.out (by kernel_rfl)) ?_
              refine takeS (i := 15) (N := some 66) (take_ofW HT_.out HW_.out (by kernel_rfl)) hHeld ?_
              refine takeS (i := 17) (N := some 68) (take_ofW HT_.out HW_.out (by kernel_rfl)) hHeld ?_
              refine pureS (i := 20) (N := some 71) (any_of HT_.out (by kernel_rfl)) ?_
              refine pureS (i := 21) (N := some 72) (any_of HT_.out (by kernel_rfl)) ?_
              refine takeS (i := 22) (N := some 73) (take_ofW HT_.out HW_.out (by kernel_rfl)) hHeld ?_
              refine pureS (i := 23) (N := some 74) (any_of HT_.out (by kernel_rfl)) ?_
              refine pureS (i := 24) (N := some 75) (any_of HT_.out (by kernel_rfl)) ?_
              refine pureS (i := 25) (N := some 76) (any_of HT_.out (by kernel_rfl)) ?_
              refine pureS (i := 27) (N := some 78) (any_of HT_.out (by kernel_rfl)) ?_
              refine pureS (i := 28) (N := some 79) (any_of HT_.out (by kernel_rfl)) ?_
              refine pureS (i := 32) (N := some 83) (any_of HT_.out (by kernel_rfl)) ?_
              refine takeS (i := 26) (N := some 77) (take_ofW HT_.out HW_.out (by kernel_rfl)) hHeld ?_
              refine pureS (i := 29) (N := some 80) (any_of HT_.out (by kernel_rfl)) ?_
              refine pureS (i := 30) (N := some 81) (any_of HT_.out (by kernel_rfl)) ?_
              refine takeS (i := 31) (N := some 82) (take_ofW HT_.out HW_.out (by kernel_rfl)) hHeld ?_
              refine takeS (i := 33) (N := some 84) (take_ofW HT_.out HW_.out (by kernel_rfl)) hHeld ?_
              refine one_ (i := 34) (N := some 85) #[true, true, true, true, true, true, true, true, true, true, true, true, true, true, true, true, true, true, true, true, true, true, true, true, true, true, true, true, true, true, true, true, true, true, true, false, false, false, false] rfl rfl (one_of HT_.out (by kernel_rfl)) (by decide) (fun K hK => ?_)
              refine goes_ Tryd.func77 (by kernel_rfl) rfl #[.slice A483_1 ((rd_T149 l0_3 (ji28)).f1).length c483_1, .slice A476_1 ((rd_T149 l0_3 x3_1).f1).length c476_1] (by rfl) rfl rfl (by (try simp only [List.map_toArray, List.map_cons, List.map_nil]); first | done | (simp only [hji28]; rfl) | rfl | (simp only [List.length_drop, List.length_take]; rfl)) ?_
              with_reducible refine (spec_l01Less.calls kj4 _ _ ((rd_T149 l0_3 (ji28)).f1) _ _ ((rd_T149 l0_3 x3_1).f1) false _ ?side1 ?side2 ?side3 ?side4 A34.out).mono ?_
              (case side1 => exact cP (Kd.C_below HR485_1.out HB.out))
              (case side2 => exact HC485_1.out)
              (case side3 => exact cP (Kd.C_below HR476_1.out HB.out))
              (case side4 => exact HC476_1.out)
              rintro e w' ⟨rfl, ⟨nd, rfl⟩⟩
              refine ⟨_, rfl, ?_⟩
              refine hK.out _ _ ⟨(blk_cell BK477.out 0).trans rfl, (blk_cell BK477.out 1).trans rfl, (blk_cell BK477.out 2).trans rfl, (blk_cell BK475.out 0).trans rfl, (blk_cell BK475.out 1).trans rfl, (blk_cell BK475.out 2).trans rfl, (blk_cell BK475.out 3).trans rfl, (blk_cell BK475.out 4).trans rfl, ((HB.out.cell (World.block_lt_of_cell? w _ hw483_0)).trans hw483_0), ((HB.out.cell (World.block_lt_of_cell? w _ hw483_1)).trans hw483_1), ((HB.out.cell (World.block_lt_of_cell? w _ hw483_2)).trans hw483_2), ((HB.out.cell (World.block_lt_of_cell? w _ hw484_0)).trans hw484_0), ((HB.out.cell (World.block_lt_of_cell? w _ hw484_1)).trans hw484_1), ((HB.out.cell (World.block_lt_of_cell? w _ hw484_2)).trans hw484_2), ((HB.out.cell (World.block_lt_of_cell? w _ hw485_0)).trans hw485_0), ((HB.out.cell (World.block_lt_of_cell? w _ hw485_1)).trans hw485_1), ((HB.out.cell (World.block_lt_of_cell? w _ hw485_2)).trans hw485_2)⟩ (fun hHeld => ?_)
              clear hK K
              refine norm_ (a' := ?_) ?_ ?_
              rotate_left
              ·show Act.put _ (some 85) _ = _
               simp only [Act.put, List.setIfInBounds_toArray, List.set_cons_zero, List.set_cons_succ, i64_w, i32_w]
               rfl
              refine pureS (i := 35) (N := some 86) (any_of HT_.out (by kernel_rfl)) ?_
              refine pureS (i := 36) (N := some 87) (any_of HT_.out (by kernel_rfl)) ?_
              refine pureS (i := 37) (N := some 88) (any_of HT_.out (by kernel_rfl)) ?_
              refine pureS (i := 38) (N := some 89) (any_of HT_.out (by kernel_rfl)) ?_
              refine done_ (done_of HT_.out (by kernel_rfl)) ?_
              try go_wp2
              go_ret
              exact ⟨by first | rfl | (simp [errW_none, errW_some] <;> rfl) | (simp only [← hji28]; first | rfl | (simp [errW_none, errW_some] <;> rfl)) | (simp [*, errW_none, errW_some] <;> rfl), bW⟩
            ·rw [if_neg c33] at H
             have c33b0 : (((rd_T149 l0_3 x3_1).f0) == ((rd_T149 l0_3 (ji28)).f0)) = false := beq_eq_false_iff_ne.mpr c33
             have c33b1 : (((rd_T149 l0_3 x3_1).f0) != ((rd_T149 l0_3 (ji28)).f0)) = true := bne_iff_ne.mpr c33
             have H' := Aside0.mk H
             clear H
             try go_wp2
             have n0_ := Aside0.mk (blk_drew BK475.out)
             have n1_ := Aside0.mk (blk_drew BK477.out)
             have n2_ := Aside0.mk (below_drew1 HB.out)
             clear BK475
             clear BK477
             clear HB
             have BK475 := n0_
             have BK477 := n1_
             have HB := n2_
             clear n0_ n1_ n2_
             have p483 : 0 ≤ ((ji28) : Int) := ofD
             have q483 : (ji28) < (l0_3.length : Int) := ofD
             obtain ⟨ad483, A483_1, c483_1, A483_2, c483_2, e483, hx483_0, hx483_1, hx483_2, hl483_1, hi483_1, hl483_2, hi483_2⟩ := at_T149 HR0_3.out (ji28) p483 q483
             have hw483_2 := hx483_2
             have hw483_1 := hx483_1
             have hw483_0 := hx483_0
             obtain rfl : ad476 = ad483 := (by injection e483)
             replace hx483_0 := (HB.out.cell (World.block_lt_of_cell? w _ hx483_0)).trans hx483_0
             replace hx483_1 := (HB.out.cell (World.block_lt_of_cell? w _ hx483_1)).trans hx483_1
             replace hx483_2 := (HB.out.cell (World.block_lt_of_cell? w _ hx483_2)).trans hx483_2
             have HR483_1 := Aside0.mk hi483_1
             have HC483_1 := Aside0.mk hl483_1
             clear hi483_1 hl483_1
             have HR483_2 := Aside0.mk hi483_2
             have HC483_2 := Aside0.mk hl483_2
             clear hi483_2 hl483_2
             replace p483 := eq_true p483
             replace q483 := eq_true q483
             have p484 : 0 ≤ ((ji28) : Int) := ofD
             have q484 : (ji28) < (l0_3.length : Int) := ofD
             obtain ⟨ad484, A484_1, c484_1, A484_2, c484_2, e484, hx484_0, hx484_1, hx484_2, hl484_1, hi484_1, hl484_2, hi484_2⟩ := at_T149 HR0_3.out (ji28) p484 q484
             have hw484_2 := hx484_2
             have hw484_1 := hx484_1
             have hw484_0 := hx484_0
             obtain rfl : ad476 = ad484 := (by injection e484)
             replace hx484_0 := (HB.out.cell (World.block_lt_of_cell? w _ hx484_0)).trans hx484_0
             replace hx484_1 := (HB.out.cell (World.block_lt_of_cell? w _ hx484_1)).trans hx484_1
             replace hx484_2 := (HB.out.cell (World.block_lt_of_cell? w _ hx484_2)).trans hx484_2
             have HR484_1 := Aside0.mk hi484_1
             have HC484_1 := Aside0.mk hl484_1
             clear hi484_1 hl484_1
             have HR484_2 := Aside0.mk hi484_2
             have HC484_2 := Aside0.mk hl484_2
             clear hi484_2 hl484_2
             replace p484 := eq_true p484
             replace q484 := eq_true q484
             have ea_ := Option.some.inj (hx483_1.symm.trans hx484_1)
             injection ea_ with ea_ en_ ec_
             subst ea_
             subst ec_
             clear en_
             have ea_ := Option.some.inj (hx483_2.symm.trans hx484_2)
             injection ea_ with ea_ en_ ec_
             subst ea_
             subst ec_
             clear en_
             refine start_ (n := 39) (S := fun w' => w'.cell? ⟨gb477, 0, none⟩ = some (.int .i64 ((rd_T149 l0_3 x3_1).f0)) ∧ w'.cell? ⟨gb477, 1, none⟩ = some (.slice A476_1 ((rd_T149 l0_3 x3_1).f1).length c476_1) ∧ w'.cell? ⟨gb477, 2, none⟩ = some (.slice A476_2 ((rd_T149 l0_3 x3_1).f2).length c476_2) ∧ w'.cell? ⟨gb475, 0, none⟩ = some (.slice A0_0 l0_0.length c0_0) ∧ w'.cell? ⟨gb475, 1, none⟩ = some (.slice A0_1 l0_1.length c0_1) ∧ w'.cell? ⟨gb475, 2, none⟩ = some (.slice A0_2 l0_2.length c0_2) ∧ w'.cell? ⟨gb475, 3, none⟩ = some (.slice (some ad476) l0_3.length c0_3) ∧ w'.cell? ⟨gb475, 4, none⟩ = some (.slice A0_4 l0_4.length c0_4) ∧ w'.cell? (ad476.add (((ji28)).toNat * 3)) = some (.int .i64 ((rd_T149 l0_3 (ji28)).f0)) ∧ w'.cell? ⟨(ad476.add (((ji28)).toNat * 3)).block, (ad476.add (((ji28)).toNat * 3)).off + 1, none⟩ = some (.slice A483_1 ((rd_T149 l0_3 (ji28)).f1).length c483_1) ∧ w'.cell? ⟨(ad476.add (((ji28)).toNat * 3)).block, (ad476.add (((ji28)).toNat * 3)).off + 2, none⟩ = some (.slice A483_2 ((rd_T149 l0_3 (ji28)).f2).length c483_2) ∧ w'.cell? (ad476.add (((ji28)).toNat * 3)) = some (.int .i64 ((rd_T149 l0_3 (ji28)).f0)) ∧ w'.cell? ⟨(ad476.add (((ji28)).toNat * 3)).block, (ad476.add (((ji28)).toNat * 3)).off + 1, none⟩ = some (.slice A483_1 ((rd_T149 l0_3 (ji28)).f1).length c483_1) ∧ w'.cell? ⟨(ad476.add (((ji28)).toNat * 3)).block, (ad476.add (((ji28)).toNat * 3)).off + 2, none⟩ = some (.slice A483_2 ((rd_T149 l0_3 (ji28)).f2).length c483_2)) (ds := []) #[false, false, false, false, false, false, false, false, false, false, false, false, false, false, false, false, false, false, false, false, false, false, false, false, false, false, false, false, false, false, false, false, false, false, false, false, false, false, false] (by kernel_rfl) rfl rfl ⟨(blk_cell BK477.out 0).trans rfl, (blk_cell BK477.out 1).trans rfl, (blk_cell BK477.out 2).trans rfl, (blk_cell BK475.out 0).trans rfl, (blk_cell BK475.out 1).trans rfl, (blk_cell BK475.out 2).trans rfl, (blk_cell BK475.out 3).trans rfl, (blk_cell BK475.out 4).trans rfl, ((HB.out.cell (World.block_lt_of_cell? w _ hw483_0)).trans hw483_0), ((HB.out.cell (World.block_lt_of_cell? w _ hw483_1)).trans hw483_1), ((HB.out.cell (World.block_lt_of_cell? w _ hw483_2)).trans hw483_2), ((HB.out.cell (World.block_lt_of_cell? w _ hw484_0)).trans hw484_0), ((HB.out.cell (World.block_lt_of_cell? w _ hw484_1)).trans hw484_1), ((HB.out.cell (World.block_lt_of_cell? w _ hw484_2)).trans hw484_2)⟩ (fun hHeld => ?_); refine with_tabW spec_l14Joints.tab7 spec_l14Joints.bits7 (fun HT_ HW_ => ?_)
             generalize wc.drew = w38 at BK475 BK477 HB HR483_1 HR483_2 HR484_1 HR484_2 hx483_0 hx483_1 hx483_2 hx484_0 hx484_1 hx484_2 hHeld ⊢
             refine pureS (i := 0) (N := some 51) (any_of HT_.out (by kernel_rfl)) ?_
             refine pureS (i := 1) (N := some 52) (any_of HT_.out (by kernel_rfl)) ?_
             refine pureS (i := 2) (N := some 53) (any_of HT_.out (by kernel_rfl)) ?_
             refine pureS (i := 3) (N := some 54) (any_of HT_.out (by kernel_rfl)) ?_
             refine pureS (i := 5) (N := some 56) (any_of HT_.out (by kernel_rfl)) ?_
             refine pureS (i := 7) (N := some 58) (any_of HT_.out (by kernel_rfl)) ?_
             refine pureS (i := 8) (N := some 59) (any_of HT_.out (by kernel_rfl)) ?_
             refine takeS (i := 4) (N := some 55) (take_ofW HT_.out HW_.out (by kernel_rfl)) hHeld ?_
             refine takeS (i := 6) (N := some 57) (take_ofW HT_.out HW_.out (by kernel_rfl)) hHeld ?_
             refine pureS (i := 9) (N := some 60) (any_of HT_.out (by kernel_rfl)) ?_
             refine pureS (i := 10) (N := some 61) (any_of HT_.out (by kernel_rfl)) ?_
             refine takeS (i := 11) (N := some 62) (take_ofW HT_.out HW_.out (by kernel_rfl)) hHeld ?_
             refine pureS (i := 12) (N := some 63) (any_of HT_.out (by kernel_rfl)) ?_
             refine pureS (i := 13) (N := some 64) (any_of HT_.out (by kernel_rfl)) ?_
             refine pureS (i := 14) (N := some 65) (any_of HT_.out (by kernel_rfl)) ?_
             refine pureS (i := 16) (N := some 67) (any_of HT_.out (by kernel_rfl)) ?_
             refine pureS (i := 18) (N := some 69) (any_of HT_.out (by kernel_rfl)) ?_
             refine pureS (i := 19) (N := some 70) (any_of HT_.out (by kernel_rfl)) ?_
             refine takeS (i := 15) (N := some 66) (take_ofW HT_.out HW_.out (by kernel_rfl)) hHeld ?_
             refine takeS (i := 17) (N := some 68) (take_ofW HT_.out HW_.out (by kernel_rfl)) hHeld ?_
             refine pureS (i := 20) (N := some 71) (any_of HT_.out (by kernel_rfl)) ?_
             refine pureS (i := 21) (N := some 72) (any_of HT_.out (by kernel_rfl)) ?_
             refine takeS (i := 22) (N := some 73) (take_ofW HT_.out HW_.out (by kernel_rfl)) hHeld ?_
             refine pureS (i := 23) (N := some 74) (any_of HT_.out (by kernel_rfl)) ?_
             refine pureS (i := 24) (N := some 75) (any_of HT_.out (by kernel_rfl)) ?_
             refine pureU (i := 25) (N := some 76) (any_of HT_.out (by kernel_rfl)) ?_
             refine pureU (i := 26) (N := some 77) (any_of HT_.out (by kernel_rfl)) ?_
             refine pureU (i := 27) (N := some 78) (any_of HT_.out (by kernel_rfl)) ?_
             refine pureU (i := 28) (N := some 79) (any_of HT_.out (by kernel_rfl)) ?_
             refine pureU (i := 29) (N := some 80) (any_of HT_.out (by kernel_rfl)) ?_
             refine pureU (i := 30) (N := some 81) (any_of HT_.out (by kernel_rfl)) ?_
             refine pureU (i := 31) (N := some 82) (any_of HT_.out (by kernel_rfl)) ?_
             refine pureU (i := 32) (N := some 83) (any_of HT_.out (by kernel_rfl)) ?_
             refine pureU (i := 33) (N := some 84) (any_of HT_.out (by kernel_rfl)) ?_
             refine pureU (i := 34) (N := some 85) (any_of HT_.out (by kernel_rfl)) ?_
             refine pureU (i := 35) (N := some 86) (any_of HT_.out (by kernel_rfl)) ?_
             refine pureS (i := 36) (N := some 87) (any_of HT_.out (by kernel_rfl)) ?_
             refine pureS (i := 37) (N := some 88) (any_of HT_.out (by kernel_rfl)) ?_
             refine pureS (i := 38) (N := some 89) (any_of HT_.out (by kernel_rfl)) ?_
             refine done_ (done_of HT_.out (by kernel_rfl)) ?_
             try go_wp2
             go_roundg kj4
             case measure => have := HK1.out; have := HJ4.out; omega
             case rel => exact ⟨(wrap64 (x3_1 + 1)), (eW), H', ⟨by have := HK1.out; have := HJ4.out; omega⟩, ⟨(bP BK475.out)⟩, ⟨bW⟩⟩
          ·rw [if_neg c30] at H
           exact absurd H (by simp)
         ·rw [if_neg c29] at H
          exact absurd H (by simp)
        ·rw [if_neg c27] at H
         have c27b0 : decide (0 < x3_1) = false := decide_eq_false c27
         clear c27
         have H' := Aside0.mk H
         clear H
         try go_wp2
         have n0_ := Aside0.mk (blk_drew BK475.out)
         have n1_ := Aside0.mk (blk_drew BK477.out)
         have n2_ := Aside0.mk (below_drew1 HB.out)
         clear BK475
         clear BK477
         clear HB
         have BK475 := n0_
         have BK477 := n1_
         have HB := n2_
         clear n0_ n1_ n2_
         refine start_ (n := 39) (S := fun w' => True) (ds := []) #[false, false, false, false, false, false, false, false, false, false, false, false, false, false, false, false, false, false, false, false, false, false, false, false, false, false, false, false, false, false, false, false, false, false, false, false, false, false, false] (by kernel_rfl) rfl rfl trivial (fun hHeld => ?_); refine with_tabW spec_l14Joints.tab7 spec_l14Joints.bits7 (fun HT_ HW_ => ?_)
         generalize wc.drew = w39 at BK475 BK477 HB hHeld ⊢
         refine pureS (i := 0) (N := some 51) (any_of HT_.out (by kernel_rfl)) ?_
         refine pureS (i := 1) (N := some 52) (any_of HT_.out (by kernel_rfl)) ?_
         refine pureS (i := 2) (N := some 53) (any_of HT_.out (by kernel_rfl)) ?_
         refine pureU (i := 3) (N := some 54) (any_of HT_.out (by kernel_rfl)) ?_
         refine pureU (i := 4) (N := some 55) (any_of HT_.out (by kernel_rfl)) ?_
         refine pureU (i := 5) (N := some 56) (any_of HT_.out (by kernel_rfl)) ?_
         refine pureU (i := 6) (N := some 57) (any_of HT_.out (by kernel_rfl)) ?_
         refine pureU (i := 7) (N := some 58) (any_of HT_.out (by kernel_rfl)) ?_
         refine pureU (i := 8) (N := some 59) (any_of HT_.out (by kernel_rfl)) ?_
         refine pureU (i := 9) (N := some 60) (any_of HT_.out (by kernel_rfl)) ?_
         refine pureU (i := 10) (N := some 61) (any_of HT_.out (by kernel_rfl)) ?_
         refine pureU (i := 11) (N := some 62) (any_of HT_.out (by kernel_rfl)) ?_
         refine pureU (i := 12) (N := some 63) (any_of HT_.out (by kernel_rfl)) ?_
         refine pureU (i := 13) (N := some 64) (any_of HT_.out (by kernel_rfl)) ?_
         refine pureU (i := 14) (N := some 65) (any_of HT_.out (by kernel_rfl)) ?_
         refine pureU (i := 15) (N := some 66) (any_of HT_.out (by kernel_rfl)) ?_
         refine pureU (i := 16) (N := some 67) (any_of HT_.out (by kernel_rfl)) ?_
         refine pureU (i := 17) (N := some 68) (any_of HT_.out (by kernel_rfl)) ?_
         refine pureU (i := 18) (N := some 69) (any_of HT_.out (by kernel_rfl)) ?_
         refine pureU (i := 19) (N := some 70) (any_of HT_.out (by kernel_rfl)) ?_
         refine pureU (i := 20) (N := some 71) (any_of HT_.out (by kernel_rfl)) ?_
         refine pureU (i := 21) (N := some 72) (any_of HT_.out (by kernel_rfl)) ?_
         refine pureU (i := 22) (N := some 73) (any_of HT_.out (by kernel_rfl)) ?_
         refine pureU (i := 23) (N := some 74) (any_of HT_.out (by kernel_rfl)) ?_
         refine pureU (i := 24) (N := some 75) (any_of HT_.out (by kernel_rfl)) ?_
         refine pureU (i := 25) (N := some 76) (any_of HT_.out (by kernel_rfl)) ?_
         refine pureU (i := 26) (N := some 77) (any_of HT_.out (by kernel_rfl)) ?_
         refine pureU (i := 27) (N := some 78) (any_of HT_.out (by kernel_rfl)) ?_
         refine pureU (i := 28) (N := some 79) (any_of HT_.out (by kernel_rfl)) ?_
         refine pureU (i := 29) (N := some 80) (any_of HT_.out (by kernel_rfl)) ?_
         refine pureU (i := 30) (N := some 81) (any_of HT_.out (by kernel_rfl)) ?_
         refine pureU (i := 31) (N := some 82) (any_of HT_.out (by kernel_rfl)) ?_
         refine pureU (i := 32) (N := some 83) (any_of HT_.out (by kernel_rfl)) ?_
         refine pureU (i := 33) (N := some 84) (any_of HT_.out (by kernel_rfl)) ?_
         refine pureU (i := 34) (N := some 85) (any_of HT_.out (by kernel_rfl)) ?_
         refine pureU (i := 35) (N := some 86) (any_of HT_.out (by kernel_rfl)) ?_
         refine pureU (i := 36) (N := some 87) (any_of HT_.out (by kernel_rfl)) ?_
         refine pureU (i := 37) (N := some 88) (any_of HT_.out (by kernel_rfl)) ?_
         refine pureS (i := 38) (N := some 89) (any_of HT_.out (by kernel_rfl)) ?_
         refine done_ (done_of HT_.out (by kernel_rfl)) ?_
         try go_wp2
         go_roundg kj4
         case measure => have := HK1.out; have := HJ4.out; omega
         case rel => exact ⟨(wrap64 (x3_1 + 1)), (eW), H', ⟨by have := HK1.out; have := HJ4.out; omega⟩, ⟨(bP BK475.out)⟩, ⟨bW⟩⟩
    ·rw [if_neg c4] at H
     exact absurd H (by simp)
   ·rw [if_neg c3] at H
    have c3b0 : decide (x3_1 < (l0_3.length : Int)) = false := decide_eq_false c3
    clear c3
    obtain rfl := Option.some.inj H
    have hcz40_0 : wr.cell? ⟨gb475, 0, none⟩ = some (.slice A0_0 l0_0.length c0_0) := (blk_cell BK475.out 0).trans rfl
    have hcz40_1 : wr.cell? ⟨gb475, 1, none⟩ = some (.slice A0_1 l0_1.length c0_1) := (blk_cell BK475.out 1).trans rfl
    have hcz40_2 : wr.cell? ⟨gb475, 2, none⟩ = some (.slice A0_2 l0_2.length c0_2) := (blk_cell BK475.out 2).trans rfl
    have hcz40_3 : wr.cell? ⟨gb475, 3, none⟩ = some (.slice A0_3 l0_3.length c0_3) := (blk_cell BK475.out 3).trans rfl
    have hcz40_4 : wr.cell? ⟨gb475, 4, none⟩ = some (.slice A0_4 l0_4.length c0_4) := (blk_cell BK475.out 4).trans rfl
    have hfz40_0 := blk_frozen BK475.out 0
    have hfz40_1 := blk_frozen BK475.out 1
    have hfz40_2 := blk_frozen BK475.out 2
    have hfz40_3 := blk_frozen BK475.out 3
    have hfz40_4 := blk_frozen BK475.out 4
    go_wp2
    go_ret
    exact ⟨eW, bW⟩

end Go.Proofs.YthbaocejgjpfoaaDoor.P
end M0
