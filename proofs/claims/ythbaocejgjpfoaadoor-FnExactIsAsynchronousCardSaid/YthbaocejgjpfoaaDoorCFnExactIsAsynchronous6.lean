import Derived.ArgAppend
import Derived.Below
import Derived.BigQuiet
import Derived.Deep.AppendLies
import Derived.Deep.CutBlock
import Derived.Deep.DeepCutAuto
import Derived.Deep.Draws
import Derived.Deep.LoopGhost
import Derived.Deep.OwnRows
import Derived.Deep.QuietTactic
import Derived.Deep.RegionHeld3
import Derived.KernelRfl
import Derived.Laws.BitsLemmas
import Derived.Laws.BytesArg
import Derived.Laws.IdiomCopy
import Derived.Laws.MakeOwn
import Derived.Laws.OwnMore
import Derived.Laws.Rows
import Derived.Laws.Slices
import Derived.Laws.StructEq
import Derived.Lib.AppendStr
import Derived.Lib.ConvBytes
import Derived.Lib.SliceRun
import Derived.Maps.AppendAt
import Derived.OrdersHeld
import Derived.OwnWalk
import Derived.RowKit
import Derived.RowKit3
import Derived.Shelf.Abstract
import Derived.Shelf.Spec.TrailingZeros
import Derived.Tactics
import Derived.Test.YthbaocejgjpfoaaDoorProg
import Derived.WalkKit
import Derived.WideLaws
import Derived.Test.YthbaocejgjpfoaaDoorCFnExactIsAsynchronous2
import Derived.Test.YthbaocejgjpfoaaDoorCFnExactIsAsynchronous3
import Derived.Test.YthbaocejgjpfoaaDoorCFnExactIsAsynchronous4
import Derived.Test.YthbaocejgjpfoaaDoorCFnExactIsAsynchronous5
section M0
namespace Go.Proofs.YthbaocejgjpfoaaDoor.P
open Go.RowKit Go.Proofs.YthbaocejgjpfoaaDoor.Sh Go.Proofs.YthbaocejgjpfoaaDoorW.PrintWords Go.Proofs.YthbaocejgjpfoaaDoorW.PrintLast Go.Proofs.YthbaocejgjpfoaaDoorW.PrintMore
attribute [local go_sem] max2_int min2_int max_two min_two max_three min_three max_four min_four   -- for this text's walks alone
set_option linter.unusedVariables false
set_option linter.unusedSimpArgs false

/-! ### spec_IsAsynchronous: function 38 -/
mutual
def spec_IsAsynchronous.l0 : Nat → Int → List Int → List Int → List Int → List (S149) → List (List Int) → Option (Bool)
 | 0, _, _, _, _, _, _ => none
 | k + 1, x3, x488000, x488001, x488002, x488003, x488004 => if x3 < (x488001.length : Int) then (if 0 ≤ x3 then ((spec_l01In.f (rd x488001 x3) 1 4).bind fun t490 => (if t490 = true then (spec_IsAsynchronous.l0 k (wrap64 (x3 + 1)) x488000 x488001 x488002 x488003 x488004) else (some false))) else (none)) else ((spec_l14Global.f k x488000 x488001 x488002 x488003 x488004 x488002).bind fun t491 => (if t491 = true then ((spec_l14Joints.f k x488000 x488001 x488002 x488003 x488004).bind fun t492 => (spec_IsAsynchronous.j1 k (!t492) x488000 x488001 x488002 x488003 x488004)) else (spec_IsAsynchronous.j1 k true x488000 x488001 x488002 x488003 x488004)))
def spec_IsAsynchronous.j1 : Nat → Bool → List Int → List Int → List Int → List (S149) → List (List Int) → Option (Bool)
 | 0, _, _, _, _, _, _ => none
 | k + 1, x35, x488000, x488001, x488002, x488003, x488004 => if x35 = true then (some false) else (spec_IsAsynchronous.l1 k 0 x488000 x488001 x488002 x488003 x488004)
def spec_IsAsynchronous.l1 : Nat → Int → List Int → List Int → List Int → List (S149) → List (List Int) → Option (Bool)
 | 0, _, _, _, _, _, _ => none
 | k + 1, x4, x488000, x488001, x488002, x488003, x488004 => if x4 < (x488004.length : Int) then (if 0 ≤ x4 then ((spec_l14Global.f k x488000 x488001 x488002 x488003 x488004 (rd_L1 x488004 x4)).bind fun t494 => (if t494 = true then (if x4 > 0 then (if 0 ≤ (wrap64 (x4 - 1)) then (if (wrap64 (x4 - 1)) < (x488004.length : Int) then ((spec_l01Less.f k (rd_L1 x488004 (wrap64 (x4 - 1))) (rd_L1 x488004 x4)).bind fun t497 => (if t497 = true then (spec_IsAsynchronous.l1 k (wrap64 (x4 + 1)) x488000 x488001 x488002 x488003 x488004) else (some false))) else (none)) else (none)) else (spec_IsAsynchronous.l1 k (wrap64 (x4 + 1)) x488000 x488001 x488002 x488003 x488004)) else (some false))) else (none)) else (some (decide ((x488004.length : Int) ≤ 64)))
end
def spec_IsAsynchronous.f (k : Nat) (l0_0 : List Int) (l0_1 : List Int) (l0_2 : List Int) (l0_3 : List (S149)) (l0_4 : List (List Int)) : Option (Bool) := (spec_l14Places.f k (l0_1.length : Int) l0_0).bind fun t488 => (if t488 = true then (spec_IsAsynchronous.l0 k 0 l0_0 l0_1 l0_2 l0_3 l0_4) else (some false))
theorem spec_IsAsynchronous.mono_l : ∀ k, (∀ y0 y1 y2 y3 y4 y5, LeO (spec_IsAsynchronous.l0 k y0 y1 y2 y3 y4 y5) (spec_IsAsynchronous.l0 (k + 1) y0 y1 y2 y3 y4 y5)) ∧ (∀ y0 y1 y2 y3 y4 y5, LeO (spec_IsAsynchronous.j1 k y0 y1 y2 y3 y4 y5) (spec_IsAsynchronous.j1 (k + 1) y0 y1 y2 y3 y4 y5)) ∧ (∀ y0 y1 y2 y3 y4 y5, LeO (spec_IsAsynchronous.l1 k y0 y1 y2 y3 y4 y5) (spec_IsAsynchronous.l1 (k + 1) y0 y1 y2 y3 y4 y5))
 | 0 => ⟨fun _ _ _ _ _ _ r h => by simp [spec_IsAsynchronous.l0] at h, fun _ _ _ _ _ _ r h => by simp [spec_IsAsynchronous.j1] at h, fun _ _ _ _ _ _ r h => by simp [spec_IsAsynchronous.l1] at h⟩
 | k + 1 => by
  obtain ⟨ih0, ih1, ih2⟩ := spec_IsAsynchronous.mono_l k
  refine ⟨?_, ?_, ?_⟩
  ·intro y0 y1 y2 y3 y4 y5
   unfold spec_IsAsynchronous.l0
   repeat' first
   | (with_reducible exact ih0 _ _ _ _ _ _)
   | (with_reducible exact ih1 _ _ _ _ _ _)
   | (with_reducible exact ih2 _ _ _ _ _ _)
   | (with_reducible exact spec_l01Less.mono _ _ _)
   | (with_reducible exact spec_l14Global.mono _ _ _ _ _ _ _)
   | (with_reducible exact spec_l14Joints.mono _ _ _ _ _ _)
   | (with_reducible exact spec_l14Places.mono _ _ _)
   | (with_reducible exact LeO.refl _)
   | (with_reducible exact LeO.none _)
   | (with_reducible refine LeO.ite ?_ ?_)
   | (with_reducible refine LeO.bind ?_ (fun _ => ?_))
   | exact ih0 _ _ _ _ _ _
   | exact ih1 _ _ _ _ _ _
   | exact ih2 _ _ _ _ _ _
   | exact spec_l01Less.mono _ _ _
   | exact spec_l14Global.mono _ _ _ _ _ _ _
   | exact spec_l14Joints.mono _ _ _ _ _ _
   | exact spec_l14Places.mono _ _ _
   | exact LeO.none _
   | refine LeO.ite ?_ ?_
   | refine LeO.bind ?_ (fun _ => ?_)
  ·intro y0 y1 y2 y3 y4 y5
   unfold spec_IsAsynchronous.j1
   repeat' first
   | (with_reducible exact ih0 _ _ _ _ _ _)
   | (with_reducible exact ih1 _ _ _ _ _ _)
   | (with_reducible exact ih2 _ _ _ _ _ _)
   | (with_reducible exact spec_l01Less.mono _ _ _)
   | (with_reducible exact spec_l14Global.mono _ _ _ _ _ _ _)
   | (with_reducible exact spec_l14Joints.mono _ _ _ _ _ _)
   | (with_reducible exact spec_l14Places.mono _ _ _)
   | (with_reducible exact LeO.refl _)
   | (with_reducible exact LeO.none _)
   | (with_reducible refine LeO.ite ?_ ?_)
   | (with_reducible refine LeO.bind ?_ (fun _ => ?_))
   | exact ih0 _ _ _ _ _ _
   | exact ih1 _ _ _ _ _ _
   | exact ih2 _ _ _ _ _ _
   | exact spec_l01Less.mono _ _ _
   | exact spec_l14Global.mono _ _ _ _ _ _ _
   | exact spec_l14Joints.mono _ _ _ _ _ _
   | exact spec_l14Places.mono _ _ _
   | exact LeO.none _
   | refine LeO.ite ?_ ?_
   | refine LeO.bind ?_ (fun _ => ?_)
  ·intro y0 y1 y2 y3 y4 y5
   unfold spec_IsAsynchronous.l1
   repeat' first
   | (with_reducible exact ih0 _ _ _ _ _ _)
   | (with_reducible exact ih1 _ _ _ _ _ _)
   | (with_reducible exact ih2 _ _ _ _ _ _)
   | (with_reducible exact spec_l01Less.mono _ _ _)
   | (with_reducible exact spec_l14Global.mono _ _ _ _ _ _ _)
   | (with_reducible exact spec_l14Joints.mono _ _ _ _ _ _)
   | (with_reducible exact spec_l14Places.mono _ _ _)
   | (with_reducible exact LeO.refl _)
   | (with_reducible exact LeO.none _)
   | (with_reducible refine LeO.ite ?_ ?_)
   | (with_reducible refine LeO.bind ?_ (fun _ => ?_))
   | exact ih0 _ _ _ _ _ _
   | exact ih1 _ _ _ _ _ _
   | exact ih2 _ _ _ _ _ _
   | exact spec_l01Less.mono _ _ _
   | exact spec_l14Global.mono _ _ _ _ _ _ _
   | exact spec_l14Joints.mono _ _ _ _ _ _
   | exact spec_l14Places.mono _ _ _
   | exact LeO.none _
   | refine LeO.ite ?_ ?_
   | refine LeO.bind ?_ (fun _ => ?_)
theorem spec_IsAsynchronous.mono : ∀ a0 a1 a2 a3 a4 k, LeO (spec_IsAsynchronous.f k a0 a1 a2 a3 a4) (spec_IsAsynchronous.f (k + 1) a0 a1 a2 a3 a4) := by
 intro a0 a1 a2 a3 a4 k
 obtain ⟨ih0, ih1, ih2⟩ := spec_IsAsynchronous.mono_l k
 unfold spec_IsAsynchronous.f
 repeat' first
   | (with_reducible exact ih0 _ _ _ _ _ _)
   | (with_reducible exact ih1 _ _ _ _ _ _)
   | (with_reducible exact ih2 _ _ _ _ _ _)
   | (with_reducible exact spec_l01Less.mono _ _ _)
   | (with_reducible exact spec_l14Global.mono _ _ _ _ _ _ _)
   | (with_reducible exact spec_l14Joints.mono _ _ _ _ _ _)
   | (with_reducible exact spec_l14Places.mono _ _ _)
   | (with_reducible exact LeO.refl _)
   | (with_reducible exact LeO.none _)
   | (with_reducible refine LeO.ite ?_ ?_)
   | (with_reducible refine LeO.bind ?_ (fun _ => ?_))
   | exact ih0 _ _ _ _ _ _
   | exact ih1 _ _ _ _ _ _
   | exact ih2 _ _ _ _ _ _
   | exact spec_l01Less.mono _ _ _
   | exact spec_l14Global.mono _ _ _ _ _ _ _
   | exact spec_l14Joints.mono _ _ _ _ _ _
   | exact spec_l14Places.mono _ _ _
   | exact LeO.none _
   | refine LeO.ite ?_ ?_
   | refine LeO.bind ?_ (fun _ => ?_)
def spec_IsAsynchronous.T13 : Bool × List (List Nat × List Nat) := (true, [([], []), ([], []), ([1], [1]), ([], []), ([2, 3], [2, 3]), ([4], [4]), ([0, 5], [0, 5]), ([6], [6]), ([7, 6], [7]), ([8], [8]), ([9, 8], [8, 9]), ([10, 8, 8], [8, 10]), ([11], [11]), ([12, 11], [11, 12]), ([11], [11]), ([14, 11], [11, 14]), ([13, 15, 11], [11, 13, 15]), ([16, 11], [11, 16]), ([11], [11]), ([18, 11], [11, 18]), ([11], [11]), ([19, 20, 11], [11, 19, 20]), ([21, 11], [11, 21]), ([17, 22, 11, 11], [11, 17, 22]), ([23, 11], [11, 23]), ([11, 24, 8], [8, 11, 24]), ([8, 25], [8, 25])])
def spec_IsAsynchronous.B13 : List Nat := [0, 0, 2, 0, 14, 30, 63, 127, 255, 511, 1023, 2047, 4095, 8191, 4095, 20479, 65535, 131071, 4095, 266239, 4095, 1839103, 3936255, 8388607, 16777215, 33554431, 67108863]
theorem spec_IsAsynchronous.tab13 : rtab .any (opsOf Tryd.f38 13) = spec_IsAsynchronous.T13 := by kernel_rfl
theorem spec_IsAsynchronous.bits13 : waitsOk spec_IsAsynchronous.T13.2 spec_IsAsynchronous.B13 = true := by kernel_rfl
set_option maxHeartbeats 8000000 in
set_option maxRecDepth 100000 in
theorem spec_IsAsynchronous.calls (k : Nat) (A0_0 : Option Addr) (c0_0 : Nat) (l0_0 : List Int) (A0_1 : Option Addr) (c0_1 : Nat) (l0_1 : List Int) (A0_2 : Option Addr) (c0_2 : Nat) (l0_2 : List Int) (A0_3 : Option Addr) (c0_3 : Nat) (l0_3 : List (S149)) (A0_4 : Option Addr) (c0_4 : Nat) (l0_4 : List (List Int)) (r : Bool) (w : World) (hr0_0 : Kd.C (Kd.int .i64) w A0_0 l0_0.length l0_0) (hc0_0 : l0_0.length ≤ c0_0) (hr0_1 : Kd.C (Kd.int .i64) w A0_1 l0_1.length l0_1) (hc0_1 : l0_1.length ≤ c0_1) (hr0_2 : Kd.C (Kd.int .i64) w A0_2 l0_2.length l0_2) (hc0_2 : l0_2.length ≤ c0_2) (hr0_3 : Kd.C k149 w A0_3 l0_3.length l0_3) (hc0_3 : l0_3.length ≤ c0_3) (hr0_4 : Kd.C (Kd.slice 2 (Kd.int .i64)) w A0_4 l0_4.length l0_4) (hc0_4 : l0_4.length ≤ c0_4) (h : spec_IsAsynchronous.f k l0_0 l0_1 l0_2 l0_3 l0_4 = some r) :
  Calls Tryd.prog 38 #[.agg #[.slice A0_0 l0_0.length c0_0, .slice A0_1 l0_1.length c0_1, .slice A0_2 l0_2.length c0_2, .slice A0_3 l0_3.length c0_3, .slice A0_4 l0_4.length c0_4]] w fun e w' => e = .returned (.bool r) ∧ Below w.heap.size w w' := by
 have hu65 := Tryd.underlying65
 have HR0_0 := Aside0.mk hr0_0
 have HC0_0 := Aside0.mk hc0_0
 clear hr0_0 hc0_0
 have HR0_1 := Aside0.mk hr0_1
 have HC0_1 := Aside0.mk hc0_1
 clear hr0_1 hc0_1
 have HR0_2 := Aside0.mk hr0_2
 have HC0_2 := Aside0.mk hc0_2
 clear hr0_2 hc0_2
 have HR0_3 := Aside0.mk hr0_3
 have HC0_3 := Aside0.mk hc0_3
 clear hr0_3 hc0_3
 have HR0_4 := Aside0.mk hr0_4
 have HC0_4 := Aside0.mk hc0_4
 clear hr0_4 hc0_4
 have HB := Aside0.mk (Below.refl w.heap.size w)
 have H : ((spec_l14Places.f k (l0_1.length : Int) l0_0).bind fun t488 => (if t488 = true then (spec_IsAsynchronous.l0 k 0 l0_0 l0_1 l0_2 l0_3 l0_4) else (some false))) = some r := h
 clear h
 replace H := Option.bind_eq_some_iff.mp H
 obtain ⟨t488, A20, H⟩ := H
 replace H : (if t488 = true then (spec_IsAsynchronous.l0 k 0 l0_0 l0_1 l0_2 l0_3 l0_4) else (some false)) = some r := H
 have A2 := Aside0.mk A20
 clear A20
 by_cases c3 : t488 = true
 ·subst c3
  have H1 : (spec_IsAsynchronous.l0 k 0 l0_0 l0_1 l0_2 l0_3 l0_4) = some r := by rw [if_pos rfl] at H; exact H
  clear H
  have H := H1
  clear H1
  have H' := Aside0.mk H
  clear H
  go_enter Tryd.func38, Tryd.ntmps38
  go_wp2_with (first | ((with_reducible refine gate_dst (N := 1) rfl ?_); refine boxS (N := 1) (cs := #[.slice A0_0 l0_0.length c0_0, .slice A0_1 l0_1.length c0_1, .slice A0_2 l0_2.length c0_2, .slice A0_3 l0_3.length c0_3, .slice A0_4 l0_4.length c0_4]) (t := 65) ?_; intro gb487 hg w4 hbox hb; have n0_ := Aside0.mk (below_step (bW) hb); have n1_ := Aside0.mk (hbox); have n2_ := geW (w := w) hg; have n3_ := geW (w := w) hg; clear HB; have HB := n0_; have BK487 := n1_; have GW487 := n2_; have GE487 := n3_; clear n0_ n1_ n2_ n3_; clear hb hbox hg; have hcz5_0 : w4.cell? ⟨gb487, 0, none⟩ = some (.slice A0_0 l0_0.length c0_0) := (blk_cell BK487.out 0).trans rfl; have hcz5_1 : w4.cell? ⟨gb487, 1, none⟩ = some (.slice A0_1 l0_1.length c0_1) := (blk_cell BK487.out 1).trans rfl; have hcz5_2 : w4.cell? ⟨gb487, 2, none⟩ = some (.slice A0_2 l0_2.length c0_2) := (blk_cell BK487.out 2).trans rfl; have hcz5_3 : w4.cell? ⟨gb487, 3, none⟩ = some (.slice A0_3 l0_3.length c0_3) := (blk_cell BK487.out 3).trans rfl; have hcz5_4 : w4.cell? ⟨gb487, 4, none⟩ = some (.slice A0_4 l0_4.length c0_4) := (blk_cell BK487.out 4).trans rfl; have hfz5_0 := blk_frozen BK487.out 0; have hfz5_1 := blk_frozen BK487.out 1; have hfz5_2 := blk_frozen BK487.out 2; have hfz5_3 := blk_frozen BK487.out 3; have hfz5_4 := blk_frozen BK487.out 4) | ((with_reducible refine gate_callee (f := 73) rfl ?_); refine goesS (some 10) Tryd.func73 #[.int .i64 (l0_1.length : Int), .slice A0_0 l0_0.length c0_0] ?_; (with_reducible refine (spec_l14Places.calls k (l0_1.length : Int) _ _ l0_0 true _ ?side1 ?side2 A2.out).mono ?_); (case side1 => exact cP (Kd.C_below HR0_0.out HB.out)); (case side2 => exact HC0_0.out); rintro e w' ⟨rfl, ⟨nd, rfl⟩⟩; refine ⟨_, rfl, ?_⟩))
  go_loopg [3] k (fun kq v3 w' => ∃ (x3_1 : Int), v3 = .int .i64 x3_1 ∧ Aside0 (spec_IsAsynchronous.l0 kq x3_1 l0_0 l0_1 l0_2 l0_3 l0_4 = some r) ∧ Aside0 (kq ≤ k) ∧ Aside0 (w'.heap[gb487]? = some (.cells #[(.slice A0_0 l0_0.length c0_0), (.slice A0_1 l0_1.length c0_1), (.slice A0_2 l0_2.length c0_2), (.slice A0_3 l0_3.length c0_3), (.slice A0_4 l0_4.length c0_4)] 65 (0, 0))) ∧ Aside0 (Below w.heap.size w w'))
  case atStart => exact ⟨(0), (eW), H', ⟨Nat.le_refl _⟩, ⟨(bP BK487.out)⟩, ⟨bW⟩⟩
  case round =>
   clear H'
   try clear p2
   try clear c3
   try clear hcz5_0
   try clear hcz5_1
   try clear hcz5_2
   try clear hcz5_3
   try clear hcz5_4
   try clear hfz5_0
   try clear hfz5_1
   try clear hfz5_2
   try clear hfz5_3
   try clear hfz5_4
   obtain ⟨x3_1, rfl, HA, HK1, BK487, HB⟩ := hrel
   cases gk with
   | zero => exact absurd HA.out (by simp [spec_IsAsynchronous.l0])
   | succ k1 =>
    have H := HA.out
    clear HA
    simp only [spec_IsAsynchronous.l0] at H
    by_cases c6 : x3_1 < (l0_1.length : Int)
    ·rw [if_pos c6] at H
     have c6b0 : decide (x3_1 < (l0_1.length : Int)) = true := decide_eq_true c6
     clear c6
     by_cases c7 : 0 ≤ x3_1
     ·rw [if_pos c7] at H
      have c7b0 : decide (0 ≤ x3_1) = true := decide_eq_true c7
      clear c7
      replace H := Option.bind_eq_some_iff.mp H
      obtain ⟨t490, A80, H⟩ := H
      replace H : (if t490 = true then (spec_IsAsynchronous.l0 k1 (wrap64 (x3_1 + 1)) l0_0 l0_1 l0_2 l0_3 l0_4) else (some false)) = some r := H
      have A8 := Aside0.mk A80
      clear A80
      by_cases c9 : t490 = true
      ·subst c9
       have H1 : (spec_IsAsynchronous.l0 k1 (wrap64 (x3_1 + 1)) l0_0 l0_1 l0_2 l0_3 l0_4) = some r := by rw [if_pos rfl] at H; exact H
       clear H
       have H := H1
       clear H1
       have H' := Aside0.mk H
       clear H
       have hcz10_0 : wr.cell? ⟨gb487, 0, none⟩ = some (.slice A0_0 l0_0.length c0_0) := (blk_cell BK487.out 0).trans rfl
       have hcz10_1 : wr.cell? ⟨gb487, 1, none⟩ = some (.slice A0_1 l0_1.length c0_1) := (blk_cell BK487.out 1).trans rfl
       have hcz10_2 : wr.cell? ⟨gb487, 2, none⟩ = some (.slice A0_2 l0_2.length c0_2) := (blk_cell BK487.out 2).trans rfl
       have hcz10_3 : wr.cell? ⟨gb487, 3, none⟩ = some (.slice A0_3 l0_3.length c0_3) := (blk_cell BK487.out 3).trans rfl
       have hcz10_4 : wr.cell? ⟨gb487, 4, none⟩ = some (.slice A0_4 l0_4.length c0_4) := (blk_cell BK487.out 4).trans rfl
       have hfz10_0 := blk_frozen BK487.out 0
       have hfz10_1 := blk_frozen BK487.out 1
       have hfz10_2 := blk_frozen BK487.out 2
       have hfz10_3 := blk_frozen BK487.out 3
       have hfz10_4 := blk_frozen BK487.out 4
       have p489 : 0 ≤ (x3_1 : Int) := ofD
       have q489 : x3_1 < (l0_1.length : Int) := ofD
       obtain ⟨ad489, e489, hx489_0⟩ := Kd.at_int HR0_1.out x3_1 p489 q489
       cases e489
       replace hx489_0 := (HB.out.cell (World.block_lt_of_cell? w _ hx489_0)).trans hx489_0
       replace p489 := eq_true p489
       replace q489 := eq_true q489
       go_wp2_with (first | ((with_reducible refine gate_callee (f := 74) rfl ?_); refine goesS (some 24) Tryd.func74 #[.int .i64 (rd l0_1 x3_1), .int .i64 1, .int .i64 4] ?_; (with_reducible refine (spec_l01In.calls (rd l0_1 x3_1) 1 4 true _ A8.out).mono ?_); rintro e w' ⟨rfl, ⟨nd, rfl⟩⟩; refine ⟨_, rfl, ?_⟩))
       go_roundg k1
       case measure => have := HK1.out; omega
       case rel => exact ⟨(wrap64 (x3_1 + 1)), (eW), H', ⟨by have := HK1.out; omega⟩, ⟨(bP BK487.out)⟩, ⟨bW⟩⟩
      ·replace c9 := Bool.eq_false_iff.mpr c9
       subst c9
       have H1 : (some false) = some r := by rw [if_neg (show ¬ (false = true) by decide)] at H; exact H
       clear H
       have H := H1
       clear H1
       obtain rfl := Option.some.inj H
       have hcz11_0 : wr.cell? ⟨gb487, 0, none⟩ = some (.slice A0_0 l0_0.length c0_0) := (blk_cell BK487.out 0).trans rfl
       have hcz11_1 : wr.cell? ⟨gb487, 1, none⟩ = some (.slice A0_1 l0_1.length c0_1) := (blk_cell BK487.out 1).trans rfl
       have hcz11_2 : wr.cell? ⟨gb487, 2, none⟩ = some (.slice A0_2 l0_2.length c0_2) := (blk_cell BK487.out 2).trans rfl
       have hcz11_3 : wr.cell? ⟨gb487, 3, none⟩ = some (.slice A0_3 l0_3.length c0_3) := (blk_cell BK487.out 3).trans rfl
       have hcz11_4 : wr.cell? ⟨gb487, 4, none⟩ = some (.slice A0_4 l0_4.length c0_4) := (blk_cell BK487.out 4).trans rfl
       have hfz11_0 := blk_frozen BK487.out 0
       have hfz11_1 := blk_frozen BK487.out 1
       have hfz11_2 := blk_frozen BK487.out 2
       have hfz11_3 := blk_frozen BK487.out 3
       have hfz11_4 := blk_frozen BK487.out 4
       have p489 : 0 ≤ (x3_1 : Int) := ofD
       have q489 : x3_1 < (l0_1.length : Int) := ofD
       obtain ⟨ad489, e489, hx489_0⟩ := Kd.at_int HR0_1.out x3_1 p489 q489
       cases e489
       replace hx489_0 := (HB.out.cell (World.block_lt_of_cell? w _ hx489_0)).trans hx489_0
       replace p489 := eq_true p489
       replace q489 := eq_true q489
       go_wp2_with (first | ((with_reducible refine gate_callee (f := 74) rfl ?_); refine goesS (some 24) Tryd.func74 #[.int .i64 (rd l0_1 x3_1), .int .i64 1, .int .i64 4] ?_; (with_reducible refine (spec_l01In.calls (rd l0_1 x3_1) 1 4 false _ A8.out).mono ?_); rintro e w' ⟨rfl, ⟨nd, rfl⟩⟩; refine ⟨_, rfl, ?_⟩))
       go_ret
       exact ⟨eW, bW⟩
     ·rw [if_neg c7] at H
      exact absurd H (by simp)
    ·rw [if_neg c6] at H
     have c6b0 : decide (x3_1 < (l0_1.length : Int)) = false := decide_eq_false c6
     clear c6
     have HC12 := Aside0.mk H
     clear H
     have hcz13_0 : wr.cell? ⟨gb487, 0, none⟩ = some (.slice A0_0 l0_0.length c0_0) := (blk_cell BK487.out 0).trans rfl
     have hcz13_1 : wr.cell? ⟨gb487, 1, none⟩ = some (.slice A0_1 l0_1.length c0_1) := (blk_cell BK487.out 1).trans rfl
     have hcz13_2 : wr.cell? ⟨gb487, 2, none⟩ = some (.slice A0_2 l0_2.length c0_2) := (blk_cell BK487.out 2).trans rfl
     have hcz13_3 : wr.cell? ⟨gb487, 3, none⟩ = some (.slice A0_3 l0_3.length c0_3) := (blk_cell BK487.out 3).trans rfl
     have hcz13_4 : wr.cell? ⟨gb487, 4, none⟩ = some (.slice A0_4 l0_4.length c0_4) := (blk_cell BK487.out 4).trans rfl
     have hfz13_0 := blk_frozen BK487.out 0
     have hfz13_1 := blk_frozen BK487.out 1
     have hfz13_2 := blk_frozen BK487.out 2
     have hfz13_3 := blk_frozen BK487.out 3
     have hfz13_4 := blk_frozen BK487.out 4
     go_upto_region 8 with (fail)
     go_cut [35] (fun v35 wc => ∃ (kq : Nat) (x35_11 : Bool), v35 = .bool x35_11 ∧ Aside0 (spec_IsAsynchronous.j1 kq x35_11 l0_0 l0_1 l0_2 l0_3 l0_4 = some r) ∧ Aside0 (kq ≤ k1) ∧ Aside0 (wc.heap[gb487]? = some (.cells #[(.slice A0_0 l0_0.length c0_0), (.slice A0_1 l0_1.length c0_1), (.slice A0_2 l0_2.length c0_2), (.slice A0_3 l0_3.length c0_3), (.slice A0_4 l0_4.length c0_4)] 65 (0, 0))) ∧ Aside0 (Below w.heap.size w wc))
     case first =>
      have H := HC12.out
      clear HC12
      replace H := Option.bind_eq_some_iff.mp H
      obtain ⟨t491, A140, H⟩ := H
      replace H : (if t491 = true then ((spec_l14Joints.f k1 l0_0 l0_1 l0_2 l0_3 l0_4).bind fun t492 => (spec_IsAsynchronous.j1 k1 (!t492) l0_0 l0_1 l0_2 l0_3 l0_4)) else (spec_IsAsynchronous.j1 k1 true l0_0 l0_1 l0_2 l0_3 l0_4)) = some r := H
      have A14 := Aside0.mk A140
      clear A140
      by_cases c15 : t491 = true
      ·subst c15
       have H1 : ((spec_l14Joints.f k1 l0_0 l0_1 l0_2 l0_3 l0_4).bind fun t492 => (spec_IsAsynchronous.j1 k1 (!t492) l0_0 l0_1 l0_2 l0_3 l0_4)) = some r := by rw [if_pos rfl] at H; exact H
       clear H
       have H := H1
       clear H1
       replace H := Option.bind_eq_some_iff.mp H
       obtain ⟨t492, A160, H⟩ := H
       replace H : (spec_IsAsynchronous.j1 k1 (!t492) l0_0 l0_1 l0_2 l0_3 l0_4) = some r := H
       have A16 := Aside0.mk A160
       clear A160
       have H' := Aside0.mk H
       clear H
       have hcz17_0 : wr.cell? ⟨gb487, 0, none⟩ = some (.slice A0_0 l0_0.length c0_0) := (blk_cell BK487.out 0).trans rfl
       have hcz17_1 : wr.cell? ⟨gb487, 1, none⟩ = some (.slice A0_1 l0_1.length c0_1) := (blk_cell BK487.out 1).trans rfl
       have hcz17_2 : wr.cell? ⟨gb487, 2, none⟩ = some (.slice A0_2 l0_2.length c0_2) := (blk_cell BK487.out 2).trans rfl
       have hcz17_3 : wr.cell? ⟨gb487, 3, none⟩ = some (.slice A0_3 l0_3.length c0_3) := (blk_cell BK487.out 3).trans rfl
       have hcz17_4 : wr.cell? ⟨gb487, 4, none⟩ = some (.slice A0_4 l0_4.length c0_4) := (blk_cell BK487.out 4).trans rfl
       have hfz17_0 := blk_frozen BK487.out 0
       have hfz17_1 := blk_frozen BK487.out 1
       have hfz17_2 := blk_frozen BK487.out 2
       have hfz17_3 := blk_frozen BK487.out 3
       have hfz17_4 := blk_frozen BK487.out 4
       go_wp2_with (first | ((with_reducible refine gate_callee (f := 75) rfl ?_); refine goesS (some 29) Tryd.func75 #[.agg #[.slice A0_0 l0_0.length c0_0, .slice A0_1 l0_1.length c0_1, .slice A0_2 l0_2.length c0_2, .slice A0_3 l0_3.length c0_3, .slice A0_4 l0_4.length c0_4], .slice A0_2 l0_2.length c0_2] ?_; (with_reducible refine (spec_l14Global.calls k1 _ _ l0_0 _ _ l0_1 _ _ l0_2 _ _ l0_3 _ _ l0_4 _ _ l0_2 true _ ?side1 ?side2 ?side3 ?side4 ?side5 ?side6 ?side7 ?side8 ?side9 ?side10 ?side11 ?side12 A14.out).mono ?_); (case side1 => exact cP (Kd.C_below HR0_0.out HB.out)); (case side2 => exact HC0_0.out); (case side3 => exact cP (Kd.C_below HR0_1.out HB.out)); (case side4 => exact HC0_1.out); (case side5 => exact cP (Kd.C_below HR0_2.out HB.out)); (case side6 => exact HC0_2.out); (case side7 => exact cP (Kd.C_below HR0_3.out HB.out)); (case side8 => exact HC0_3.out); (case side9 => exact cP (Kd.C_below HR0_4.out HB.out)); (case side10 => exact HC0_4.out); (case side11 => exact cP (Kd.C_below HR0_2.out HB.out)); (case side12 => exact HC0_2.out); rintro e w18 ⟨rfl, hb⟩; refine ⟨_, rfl, ?_⟩; have n0_ := Aside0.mk (blkB BK487.out hb); have n1_ := Aside0.mk (below_step (bW) hb); clear BK487; clear HB; have BK487 := n0_; have HB := n1_; clear n0_ n1_; (try clear hb); (try clear hb2); (try clear hk); (try clear hi); have hcz19_0 : w18.cell? ⟨gb487, 0, none⟩ = some (.slice A0_0 l0_0.length c0_0) := (blk_cell BK487.out 0).trans rfl; have hcz19_1 : w18.cell? ⟨gb487, 1, none⟩ = some (.slice A0_1 l0_1.length c0_1) := (blk_cell BK487.out 1).trans rfl; have hcz19_2 : w18.cell? ⟨gb487, 2, none⟩ = some (.slice A0_2 l0_2.length c0_2) := (blk_cell BK487.out 2).trans rfl; have hcz19_3 : w18.cell? ⟨gb487, 3, none⟩ = some (.slice A0_3 l0_3.length c0_3) := (blk_cell BK487.out 3).trans rfl; have hcz19_4 : w18.cell? ⟨gb487, 4, none⟩ = some (.slice A0_4 l0_4.length c0_4) := (blk_cell BK487.out 4).trans rfl; have hfz19_0 := blk_frozen BK487.out 0; have hfz19_1 := blk_frozen BK487.out 1; have hfz19_2 := blk_frozen BK487.out 2; have hfz19_3 := blk_frozen BK487.out 3; have hfz19_4 := blk_frozen BK487.out 4) | (go_at_call 76; (with_reducible refine (spec_l14Joints.calls k1 _ _ l0_0 _ _ l0_1 _ _ l0_2 _ _ l0_3 _ _ l0_4 t492 _ ?side1 ?side2 ?side3 ?side4 ?side5 ?side6 ?side7 ?side8 ?side9 ?side10 A16.out).mono ?_); (case side1 => exact cP (Kd.C_below HR0_0.out HB.out)); (case side2 => exact HC0_0.out); (case side3 => exact cP (Kd.C_below HR0_1.out HB.out)); (case side4 => exact HC0_1.out); (case side5 => exact cP (Kd.C_below HR0_2.out HB.out)); (case side6 => exact HC0_2.out); (case side7 => exact cP (Kd.C_below HR0_3.out HB.out)); (case side8 => exact HC0_3.out); (case side9 => exact cP (Kd.C_below HR0_4.out HB.out)); (case side10 => exact HC0_4.out); rintro e w20 ⟨rfl, hb⟩; have n0_ := Aside0.mk (blkB BK487.out hb); have n1_ := Aside0.mk (below_step (bW) hb); clear BK487; clear HB; have BK487 := n0_; have HB := n1_; clear n0_ n1_; (try clear hb); (try clear hb2); (try clear hk); (try clear hi)))
       go_meet
       case rel => exact ⟨_, (!t492), (eW), H', ⟨by have := HK1.out; first | omega | exact Nat.le_refl _⟩, ⟨(bP BK487.out)⟩, ⟨bW⟩⟩
      ·replace c15 := Bool.eq_false_iff.mpr c15
       subst c15
       have H1 : (spec_IsAsynchronous.j1 k1 true l0_0 l0_1 l0_2 l0_3 l0_4) = some r := by rw [if_neg (show ¬ (false = true) by decide)] at H; exact H
       clear H
       have H := H1
       clear H1
       have H' := Aside0.mk H
       clear H
       have hcz21_0 : wr.cell? ⟨gb487, 0, none⟩ = some (.slice A0_0 l0_0.length c0_0) := (blk_cell BK487.out 0).trans rfl
       have hcz21_1 : wr.cell? ⟨gb487, 1, none⟩ = some (.slice A0_1 l0_1.length c0_1) := (blk_cell BK487.out 1).trans rfl
       have hcz21_2 : wr.cell? ⟨gb487, 2, none⟩ = some (.slice A0_2 l0_2.length c0_2) := (blk_cell BK487.out 2).trans rfl
       have hcz21_3 : wr.cell? ⟨gb487, 3, none⟩ = some (.slice A0_3 l0_3.length c0_3) := (blk_cell BK487.out 3).trans rfl
       have hcz21_4 : wr.cell? ⟨gb487, 4, none⟩ = some (.slice A0_4 l0_4.length c0_4) := (blk_cell BK487.out 4).trans rfl
       have hfz21_0 := blk_frozen BK487.out 0
       have hfz21_1 := blk_frozen BK487.out 1
       have hfz21_2 := blk_frozen BK487.out 2
       have hfz21_3 := blk_frozen BK487.out 3
       have hfz21_4 := blk_frozen BK487.out 4
       go_wp2_with (first | ((with_reducible refine gate_callee (f := 75) rfl ?_); refine goesS (some 29) Tryd.func75 #[.agg #[.slice A0_0 l0_0.length c0_0, .slice A0_1 l0_1.length c0_1, .slice A0_2 l0_2.length c0_2, .slice A0_3 l0_3.length c0_3, .slice A0_4 l0_4.length c0_4], .slice A0_2 l0_2.length c0_2] ?_; (with_reducible refine (spec_l14Global.calls k1 _ _ l0_0 _ _ l0_1 _ _ l0_2 _ _ l0_3 _ _ l0_4 _ _ l0_2 false _ ?side1 ?side2 ?side3 ?side4 ?side5 ?side6 ?side7 ?side8 ?side9 ?side10 ?side11 ?side12 A14.out).mono ?_); (case side1 => exact cP (Kd.C_below HR0_0.out HB.out)); (case side2 => exact HC0_0.out); (case side3 => exact cP (Kd.C_below HR0_1.out HB.out)); (case side4 => exact HC0_1.out); (case side5 => exact cP (Kd.C_below HR0_2.out HB.out)); (case side6 => exact HC0_2.out); (case side7 => exact cP (Kd.C_below HR0_3.out HB.out)); (case side8 => exact HC0_3.out); (case side9 => exact cP (Kd.C_below HR0_4.out HB.out)); (case side10 => exact HC0_4.out); (case side11 => exact cP (Kd.C_below HR0_2.out HB.out)); (case side12 => exact HC0_2.out); rintro e w22 ⟨rfl, hb⟩; refine ⟨_, rfl, ?_⟩; have n0_ := Aside0.mk (blkB BK487.out hb); have n1_ := Aside0.mk (below_step (bW) hb); clear BK487; clear HB; have BK487 := n0_; have HB := n1_; clear n0_ n1_; (try clear hb); (try clear hb2); (try clear hk); (try clear hi)))
       go_meet
       case rel => exact ⟨_, (true), (eW), H', ⟨by have := HK1.out; first | omega | exact Nat.le_refl _⟩, ⟨(bP BK487.out)⟩, ⟨bW⟩⟩
     case rest =>
      clear HC12
      try clear c1
      try clear p2
      try clear c3
      try clear p4
      try clear q4
      try clear hx4
      try clear c6
      try clear c6b0
      try clear p6
      try clear c7
      try clear c7b0
      try clear c9
      try clear c15
      try clear hcz10_0
      try clear hcz10_1
      try clear hcz10_2
      try clear hcz10_3
      try clear hcz10_4
      try clear hcz11_0
      try clear hcz11_1
      try clear hcz11_2
      try clear hcz11_3
      try clear hcz11_4
      try clear hcz13_0
      try clear hcz13_1
      try clear hcz13_2
      try clear hcz13_3
      try clear hcz13_4
      try clear hcz17_0
      try clear hcz17_1
      try clear hcz17_2
      try clear hcz17_3
      try clear hcz17_4
      try clear hcz19_0
      try clear hcz19_1
      try clear hcz19_2
      try clear hcz19_3
      try clear hcz19_4
      try clear hcz21_0
      try clear hcz21_1
      try clear hcz21_2
      try clear hcz21_3
      try clear hcz21_4
      try clear hcz5_0
      try clear hcz5_1
      try clear hcz5_2
      try clear hcz5_3
      try clear hcz5_4
      try clear hfz10_0
      try clear hfz10_1
      try clear hfz10_2
      try clear hfz10_3
      try clear hfz10_4
      try clear hfz11_0
      try clear hfz11_1
      try clear hfz11_2
      try clear hfz11_3
      try clear hfz11_4
      try clear hfz13_0
      try clear hfz13_1
      try clear hfz13_2
      try clear hfz13_3
      try clear hfz13_4
      try clear hfz17_0
      try clear hfz17_1
      try clear hfz17_2
      try clear hfz17_3
      try clear hfz17_4
      try clear hfz19_0
      try clear hfz19_1
      try clear hfz19_2
      try clear hfz19_3
      try clear hfz19_4
      try clear hfz21_0
      try clear hfz21_1
      try clear hfz21_2
      try clear hfz21_3
      try clear hfz21_4
      try clear hfz5_0
      try clear hfz5_1
      try clear hfz5_2
      try clear hfz5_3
      try clear hfz5_4
      try clear hx489_0
      try clear p2
      try clear p489
      try clear q489
      obtain ⟨kq, x35_11, rfl, HA, HJ11, BK487, HB⟩ := hcut
      cases kq with
      | zero => exact absurd HA.out (by simp [spec_IsAsynchronous.j1])
      | succ kj11 =>
       have H := HA.out
       clear HA
       simp only [spec_IsAsynchronous.j1] at H
       by_cases c23 : x35_11 = true
       ·subst c23
        have H1 : (some false) = some r := by rw [if_pos rfl] at H; exact H
        clear H
        have H := H1
        clear H1
        obtain rfl := Option.some.inj H
        go_wp2
        go_ret
        exact ⟨eW, bW⟩
       ·replace c23 := Bool.eq_false_iff.mpr c23
        subst c23
        have H1 : (spec_IsAsynchronous.l1 kj11 0 l0_0 l0_1 l0_2 l0_3 l0_4) = some r := by rw [if_neg (show ¬ (false = true) by decide)] at H; exact H
        clear H
        have H := H1
        clear H1
        have H' := Aside0.mk H
        clear H
        go_wp2
        go_loopg [4] kj11 (fun kq v4 w' => ∃ (x4_3 : Int), v4 = .int .i64 x4_3 ∧ Aside0 (spec_IsAsynchronous.l1 kq x4_3 l0_0 l0_1 l0_2 l0_3 l0_4 = some r) ∧ Aside0 (kq ≤ kj11) ∧ Aside0 (w'.heap[gb487]? = some (.cells #[(.slice A0_0 l0_0.length c0_0), (.slice A0_1 l0_1.length c0_1), (.slice A0_2 l0_2.length c0_2), (.slice A0_3 l0_3.length c0_3), (.slice A0_4 l0_4.length c0_4)] 65 (0, 0))) ∧ Aside0 (Below w.heap.size w w'))
        case atStart => exact ⟨(0), (eW), H', ⟨Nat.le_refl _⟩, ⟨(bP BK487.out)⟩, ⟨bW⟩⟩
        case round =>
         clear H'
         try clear c1
         try clear c2
         try clear p2
         try clear c3
         try clear p4
         try clear q4
         try clear hx4
         try clear c6
         try clear c6b0
         try clear p6
         try clear c7
         try clear c7b0
         try clear c9
         try clear c15
         try clear c23
         try clear hcz10_0
         try clear hcz10_1
         try clear hcz10_2
         try clear hcz10_3
         try clear hcz10_4
         try clear hcz11_0
         try clear hcz11_1
         try clear hcz11_2
         try clear hcz11_3
         try clear hcz11_4
         try clear hcz13_0
         try clear hcz13_1
         try clear hcz13_2
         try clear hcz13_3
         try clear hcz13_4
         try clear hcz17_0
         try clear hcz17_1
         try clear hcz17_2
         try clear hcz17_3
         try clear hcz17_4
         try clear hcz19_0
         try clear hcz19_1
         try clear hcz19_2
         try clear hcz19_3
         try clear hcz19_4
         try clear hcz21_0
         try clear hcz21_1
         try clear hcz21_2
         try clear hcz21_3
         try clear hcz21_4
         try clear hcz5_0
         try clear hcz5_1
         try clear hcz5_2
         try clear hcz5_3
         try clear hcz5_4
         try clear hfz10_0
         try clear hfz10_1
         try clear hfz10_2
         try clear hfz10_3
         try clear hfz10_4
         try clear hfz11_0
         try clear hfz11_1
         try clear hfz11_2
         try clear hfz11_3
         try clear hfz11_4
         try clear hfz13_0
         try clear hfz13_1
         try clear hfz13_2
         try clear hfz13_3
         try clear hfz13_4
         try clear hfz17_0
         try clear hfz17_1
         try clear hfz17_2
         try clear hfz17_3
         try clear hfz17_4
         try clear hfz19_0
         try clear hfz19_1
         try clear hfz19_2
         try clear hfz19_3
         try clear hfz19_4
         try clear hfz21_0
         try clear hfz21_1
         try clear hfz21_2
         try clear hfz21_3
         try clear hfz21_4
         try clear hfz5_0
         try clear hfz5_1
         try clear hfz5_2
         try clear hfz5_3
         try clear hfz5_4
         try clear hx489_0
         try clear p2
         try clear p4
         try clear p489
         try clear p6
         try clear q4
         try clear q489
         obtain ⟨x4_3, rfl, HA, HK3, BK487, HB⟩ := hrel
         cases gk with
         | zero => exact absurd HA.out (by simp [spec_IsAsynchronous.l1])
         | succ k3 =>
          have H := HA.out
          clear HA
          simp only [spec_IsAsynchronous.l1] at H
          by_cases c24 : x4_3 < (l0_4.length : Int)
          ·rw [if_pos c24] at H
           have c24b0 : decide (x4_3 < (l0_4.length : Int)) = true := decide_eq_true c24
           clear c24
           by_cases c25 : 0 ≤ x4_3
           ·rw [if_pos c25] at H
            have c25b0 : decide (0 ≤ x4_3) = true := decide_eq_true c25
            clear c25
            replace H := Option.bind_eq_some_iff.mp H
            obtain ⟨t494, A260, H⟩ := H
            replace H : (if t494 = true then (if x4_3 > 0 then (if 0 ≤ (wrap64 (x4_3 - 1)) then (if (wrap64 (x4_3 - 1)) < (l0_4.length : Int) then ((spec_l01Less.f k3 (rd_L1 l0_4 (wrap64 (x4_3 - 1))) (rd_L1 l0_4 x4_3)).bind fun t497 => (if t497 = true then (spec_IsAsynchronous.l1 k3 (wrap64 (x4_3 + 1)) l0_0 l0_1 l0_2 l0_3 l0_4) else (some false))) else (none)) else (none)) else (spec_IsAsynchronous.l1 k3 (wrap64 (x4_3 + 1)) l0_0 l0_1 l0_2 l0_3 l0_4)) else (some false)) = some r := H
            have A26 := Aside0.mk A260
            clear A260
            by_cases c27 : t494 = true
            ·subst c27
             have H1 : (if x4_3 > 0 then (if 0 ≤ (wrap64 (x4_3 - 1)) then (if (wrap64 (x4_3 - 1)) < (l0_4.length : Int) then ((spec_l01Less.f k3 (rd_L1 l0_4 (wrap64 (x4_3 - 1))) (rd_L1 l0_4 x4_3)).bind fun t497 => (if t497 = true then (spec_IsAsynchronous.l1 k3 (wrap64 (x4_3 + 1)) l0_0 l0_1 l0_2 l0_3 l0_4) else (some false))) else (none)) else (none)) else (spec_IsAsynchronous.l1 k3 (wrap64 (x4_3 + 1)) l0_0 l0_1 l0_2 l0_3 l0_4)) = some r := by rw [if_pos rfl] at H; exact H
             clear H
             have H := H1
             clear H1
             by_cases c28 : x4_3 > 0
             ·rw [if_pos c28] at H
              have c28b0 : decide (0 < x4_3) = true := decide_eq_true c28
              clear c28
              obtain ⟨ji29, hji29⟩ : ∃ j_ : Int, (wrap64 (x4_3 - 1)) = j_ := ⟨_, rfl⟩
              replace H : (if 0 ≤ (ji29) then (if (ji29) < (l0_4.length : Int) then ((spec_l01Less.f k3 (rd_L1 l0_4 (ji29)) (rd_L1 l0_4 x4_3)).bind fun t497 => (if t497 = true then (spec_IsAsynchronous.l1 k3 (wrap64 (x4_3 + 1)) l0_0 l0_1 l0_2 l0_3 l0_4) else (some false))) else (none)) else (none)) = some r := by first | (rw [hji29] at H; exact H) | (simp only [hji29] at H ⊢; exact H)
              (try rw [hji29] at A26)
              have hji29w : (IntKind.i64.wrap (x4_3 - 1)) = ji29 := (i64_w _).trans hji29
              by_cases c30 : 0 ≤ (ji29)
              ·rw [if_pos c30] at H
               have c30b0 : decide (0 ≤ (ji29)) = true := decide_eq_true c30
               clear c30
               by_cases c31 : (ji29) < (l0_4.length : Int)
               ·rw [if_pos c31] at H
                have c31b0 : decide ((ji29) < (l0_4.length : Int)) = true := decide_eq_true c31
                clear c31
                replace H := Option.bind_eq_some_iff.mp H
                obtain ⟨t497, A320, H⟩ := H
                replace H : (if t497 = true then (spec_IsAsynchronous.l1 k3 (wrap64 (x4_3 + 1)) l0_0 l0_1 l0_2 l0_3 l0_4) else (some false)) = some r := H
                have A32 := Aside0.mk A320
                clear A320
                by_cases c33 : t497 = true
                ·subst c33
                 have H1 : (spec_IsAsynchronous.l1 k3 (wrap64 (x4_3 + 1)) l0_0 l0_1 l0_2 l0_3 l0_4) = some r := by rw [if_pos rfl] at H; exact H
                 clear H
                 have H := H1
                 clear H1
                 have H' := Aside0.mk H
                 clear H
                 have hcz34_0 : wr.cell? ⟨gb487, 0, none⟩ = some (.slice A0_0 l0_0.length c0_0) := (blk_cell BK487.out 0).trans rfl
                 have hcz34_1 : wr.cell? ⟨gb487, 1, none⟩ = some (.slice A0_1 l0_1.length c0_1) := (blk_cell BK487.out 1).trans rfl
                 have hcz34_2 : wr.cell? ⟨gb487, 2, none⟩ = some (.slice A0_2 l0_2.length c0_2) := (blk_cell BK487.out 2).trans rfl
                 have hcz34_3 : wr.cell? ⟨gb487, 3, none⟩ = some (.slice A0_3 l0_3.length c0_3) := (blk_cell BK487.out 3).trans rfl
                 have hcz34_4 : wr.cell? ⟨gb487, 4, none⟩ = some (.slice A0_4 l0_4.length c0_4) := (blk_cell BK487.out 4).trans rfl
                 have hfz34_0 := blk_frozen BK487.out 0
                 have hfz34_1 := blk_frozen BK487.out 1
                 have hfz34_2 := blk_frozen BK487.out 2
                 have hfz34_3 := blk_frozen BK487.out 3
                 have hfz34_4 := blk_frozen BK487.out 4
                 try go_wp2
                 have n0_ := Aside0.mk (blk_drew BK487.out)
                 have n1_ := Aside0.mk (below_drew1 HB.out)
                 clear BK487
                 clear HB
                 have BK487 := n0_
                 have HB := n1_
                 clear n0_ n1_
                 have p493 : 0 ≤ (x4_3 : Int) := ofD
                 have q493 : x4_3 < (l0_4.length : Int) := ofD
                 obtain ⟨ad493, A493_0, c493_0, e493, hx493_0, hl493_0, hi493_0⟩ := at_L1 HR0_4.out x4_3 p493 q493
                 have hw493_0 := hx493_0
                 cases e493
                 replace hx493_0 := (HB.out.cell (World.block_lt_of_cell? w _ hx493_0)).trans hx493_0
                 have HR493_0 := Aside0.mk hi493_0
                 have HC493_0 := Aside0.mk hl493_0
                 clear hi493_0 hl493_0
                 replace p493 := eq_true p493
                 replace q493 := eq_true q493
                 have p495 : 0 ≤ ((ji29) : Int) := ofD
                 have q495 : (ji29) < (l0_4.length : Int) := ofD
                 obtain ⟨ad495, A495_0, c495_0, e495, hx495_0, hl495_0, hi495_0⟩ := at_L1 HR0_4.out (ji29) p495 q495
                 have hw495_0 := hx495_0
                 obtain rfl : ad493 = ad495 := (by injection e495)
                 replace hx495_0 := (HB.out.cell (World.block_lt_of_cell? w _ hx495_0)).trans hx495_0
                 have HR495_0 := Aside0.mk hi495_0
                 have HC495_0 := Aside0.mk hl495_0
                 clear hi495_0 hl495_0
                 replace p495 := eq_true p495
                 replace q495 := eq_true q495
                 have p496 : 0 ≤ (x4_3 : Int) := ofD
                 have q496 : x4_3 < (l0_4.length : Int) := ofD
                 obtain ⟨ad496, A496_0, c496_0, e496, hx496_0, hl496_0, hi496_0⟩ := at_L1 HR0_4.out x4_3 p496 q496
                 have hw496_0 := hx496_0
                 obtain rfl : ad493 = ad496 := (by injection e496)
                 (try (have d496_0 : A496_0 = A493_0 ∧ c496_0 = c493_0 := (by have e_ := hw496_0.symm.trans hw493_0; simpa using e_)))
                 replace hx496_0 := (HB.out.cell (World.block_lt_of_cell? w _ hx496_0)).trans hx496_0
                 have HR496_0 := Aside0.mk hi496_0
                 have HC496_0 := Aside0.mk hl496_0
                 clear hi496_0 hl496_0
                 replace p496 := eq_true p496
                 replace q496 := eq_true q496
                 refine start_ (n := 27) (S := fun w' => w'.cell? ⟨gb487, 0, none⟩ = some (.slice A0_0 l0_0.length c0_0) ∧ w'.cell? ⟨gb487, 1, none⟩ = some (.slice A0_1 l0_1.length c0_1) ∧ w'.cell? ⟨gb487, 2, none⟩ = some (.slice A0_2 l0_2.length c0_2) ∧ w'.cell? ⟨gb487, 3, none⟩ = some (.slice A0_3 l0_3.length c0_3) ∧ w'.cell? ⟨gb487, 4, none⟩ = some (.slice (some ad493) l0_4.length c0_4) ∧ w'.cell? (ad493.add (x4_3).toNat) = some (.slice A493_0 (rd_L1 l0_4 x4_3).length c493_0) ∧ w'.cell? (ad493.add ((ji29)).toNat) = some (.slice A495_0 (rd_L1 l0_4 (ji29)).length c495_0) ∧ w'.cell? (ad493.add (x4_3).toNat) = some (.slice A496_0 (rd_L1 l0_4 x4_3).length c496_0)) (ds := []) #[false, false, false, false, false, false, false, false, false, false, false, false, false, false, false, false, false, false, false, false, false, false, false, false, false, false, false] (by kernel_rfl) rfl rfl ⟨(blk_cell BK487.out 0).trans rfl, (blk_cell BK487.out 1).trans rfl, (blk_cell BK487.out 2).trans rfl, (blk_cell BK487.out 3).trans rfl, (blk_cell BK487.out 4).trans rfl, ((HB.out.cell (World.block_lt_of_cell? w _ hw493_0)).trans hw493_0), ((HB.out.cell (World.block_lt_of_cell? w _ hw495_0)).trans hw495_0), ((HB.out.cell (World.block_lt_of_cell? w _ hw496_0)).trans hw496_0)⟩ (fun hHeld => ?_); refine with_tabW spec_IsAsynchronous.tab13 spec_IsAsynchronous.bits13 (fun HT_ HW_ => ?_)
                 generalize wr.drew = w35 at BK487 HB HR493_0 HR495_0 HR496_0 hx493_0 hx495_0 hx496_0 hHeld ⊢
                 refine pureS (i := 1) (N := some 44) (any_of HT_.out (by kernel_rfl)) ?_
                 refine pureS (i := 3) (N := some 46) (any_of HT_.out (by kernel_rfl)) ?_
                 refine takeS (i := 0) (N := some 43) (take_ofW HT_.out HW_.out (by kernel_rfl)) hHeld ?_
                 refine takeS (i := 2) (N := some 45) (take_ofW HT_.out HW_.out (by kernel_rfl)) hHeld ?_
                 refine pureS (i := 4) (N := some 47) (any_of HT_.out (by kernel_rfl)) ?_
                 refine takeS (i := 5) (N := some 48) (take_ofW HT_.out HW_.out (by kernel_rfl)) hHeld ?_
                 refine one_ (i := 6) (N := some 49) #[true, true, true, true, true, true, true, false, false, false, false, false, false, false, false, false, false, false, false, false, false, false, false, false, false, false, false] rfl rfl (one_of HT_.out (by kernel_rfl)) (by decide) (fun K hK => ?_)
                 refine goes_ Tryd.func75 (by kernel_rfl) rfl #[.agg #[.slice A0_0 l0_0.length c0_0, .slice A0_1 l0_1.length c0_1, .slice A0_2 l0_2.length c0_2, .slice A0_3 l0_3.length c0_3, .slice (some ad493) l0_4.length c0_4], .slice A493_0 (rd_L1 l0_4 x4_3).length c493_0] (by rfl) rfl rfl (by (try simp only [List.map_toArray, List.map_cons, List.map_nil]); first | done | (simp only [d496_0.1, d496_0.2]; rfl) | rfl | (simp only [List.length_drop, List.length_take]; rfl)) ?_
                 with_reducible refine (spec_l14Global.calls k3 _ _ l0_0 _ _ l0_1 _ _ l0_2 _ _ l0_3 _ _ l0_4 _ _ (rd_L1 l0_4 x4_3) true _ ?side1 ?side2 ?side3 ?side4 ?side5 ?side6 ?side7 ?side8 ?side9 ?side10 ?side11 ?side12 A26.out).mono ?_
                 (case side1 => exact cP (Kd.C_below HR0_0.out HB.out))
                 (case side2 => exact HC0_0.out)
                 (case side3 => exact cP (Kd.C_below HR0_1.out HB.out))
                 (case side4 => exact HC0_1.out)
                 (case side5 => exact cP (Kd.C_below HR0_2.out HB.out))
                 (case side6 => exact HC0_2.out)
                 (case side7 => exact cP (Kd.C_below HR0_3.out HB.out))
                 (case side8 => exact HC0_3.out)
                 (case side9 => exact cP (Kd.C_below HR0_4.out HB.out))
                 (case side10 => exact HC0_4.out)
                 (case side11 => exact cP (Kd.C_below HR493_0.out HB.out))
                 (case side12 => exact HC493_0.out)
                 rintro e w36 ⟨rfl, hb⟩
                 refine ⟨_, rfl, ?_⟩
                 have n0_ := Aside0.mk (blkB BK487.out hb)
                 have n1_ := Aside0.mk (below_step (bW) hb)
                 clear BK487
                 clear HB
                 have BK487 := n0_
                 have HB := n1_
                 clear n0_ n1_
                 (try clear hb)
                 (try clear hb2)
                 (try clear hk)
                 (try clear hi)
                 refine hK.out _ _ ⟨(blk_cell BK487.out 0).trans rfl, (blk_cell BK487.out 1).trans rfl, (blk_cell BK487.out 2).trans rfl, (blk_cell BK487.out 3).trans rfl, (blk_cell BK487.out 4).trans rfl, ((HB.out.cell (World.block_lt_of_cell? w _ hw493_0)).trans hw493_0), ((HB.out.cell (World.block_lt_of_cell? w _ hw495_0)).trans hw495_0), ((HB.out.cell (World.block_lt_of_cell? w _ hw496_0)).trans hw496_0)⟩ (fun hHeld => ?_)
                 clear hK K
                 refine norm_ (a' := ?_) ?_ ?_
                 rotate_left
                 ·show Act.put _ (some 49) _ = _
                  simp only [Act.put, List.setIfInBounds_toArray, List.set_cons_zero, List.set_cons_succ, i64_w, i32_w]
                  rfl
                 refine pureS (i := 7) (N := some 50) (any_of HT_.out (by kernel_rfl)) ?_
                 refine pureS (i := 8) (N := some 51) (any_of HT_.out (by kernel_rfl)) ?_
                 refine pureS (i := 9) (N := some 52) (any_of HT_.out (by kernel_rfl)) ?_
                 refine pureS (i := 10) (N := some 53) (any_of HT_.out (by kernel_rfl)) ?_
                 refine pureS (i := 11) (N := some 54) (any_of HT_.out (by kernel_rfl)) ?_
                 refine pureS (i := 12) (N := some 55) (any_of HT_.out (by kernel_rfl)) ?_
                 refine pureS (i := 14) (N := some 57) (any_of HT_.out (by kernel_rfl)) ?_
                 refine pureS (i := 15) (N := some 58) (any_of HT_.out (by kernel_rfl)) ?_
                 refine pureS (i := 18) (N := some 61) (any_of HT_.out (by kernel_rfl)) ?_
                 refine pureS (i := 20) (N := some 63) (any_of HT_.out (by kernel_rfl)) ?_
                 refine takeS (i := 13) (N := some 56) (take_ofW HT_.out HW_.out (by kernel_rfl)) hHeld ?_
                 refine pureS (i := 16) (N := some 59) (any_of HT_.out (by kernel_rfl)) ?_
                 refine takeS (i := 17) (N := some 60) (take_ofW HT_.out HW_.out (by kernel_rfl)) hHeld ?_
                 refine takeS (i := 19) (N := some 62) (take_ofW HT_.out HW_.out (by kernel_rfl)) hHeld ?_
                 refine pureS (i := 21) (N := some 64) (any_of HT_.out (by kernel_rfl)) ?_
                 refine takeS (i := 22) (N := some 65) (take_ofW HT_.out HW_.out (by kernel_rfl)) hHeld ?_
                 refine one_ (i := 23) (N := some 66) #[true, true, true, true, true, true, true, true, true, true, true, true, true, true, true, true, true, true, true, true, true, true, true, true, false, false, false] rfl rfl (one_of HT_.out (by kernel_rfl)) (by decide) (fun K hK => ?_)
                 refine goes_ Tryd.func77 (by kernel_rfl) rfl #[.slice A495_0 (rd_L1 l0_4 (ji29)).length c495_0, .slice A496_0 (rd_L1 l0_4 x4_3).length c496_0] (by rfl) rfl rfl (by (try simp only [List.map_toArray, List.map_cons, List.map_nil]); first | done | (simp only [d496_0.1, d496_0.2]; rfl) | (simp only [hji29]; rfl) | rfl | (simp only [List.length_drop, List.length_take]; rfl)) ?_
                 with_reducible refine (spec_l01Less.calls k3 _ _ (rd_L1 l0_4 (ji29)) _ _ (rd_L1 l0_4 x4_3) true _ ?side1 ?side2 ?side3 ?side4 A32.out).mono ?_
                 (case side1 => exact cP (Kd.C_below HR495_0.out HB.out))
                 (case side2 => exact HC495_0.out)
                 (case side3 => exact cP (Kd.C_below HR496_0.out HB.out))
                 (case side4 => exact HC496_0.out)
                 rintro e w' ⟨rfl, ⟨nd, rfl⟩⟩
                 refine ⟨_, rfl, ?_⟩
                 refine hK.out _ _ ⟨(blk_cell BK487.out 0).trans rfl, (blk_cell BK487.out 1).trans rfl, (blk_cell BK487.out 2).trans rfl, (blk_cell BK487.out 3).trans rfl, (blk_cell BK487.out 4).trans rfl, ((HB.out.cell (World.block_lt_of_cell? w _ hw493_0)).trans hw493_0), ((HB.out.cell (World.block_lt_of_cell? w _ hw495_0)).trans hw495_0), ((HB.out.cell (World.block_lt_of_cell? w _ hw496_0)).trans hw496_0)⟩ (fun hHeld => ?_)
                 clear hK K
                 refine norm_ (a' := ?_) ?_ ?_
                 rotate_left
                 ·show Act.put _ (some 66) _ = _
                  simp only [Act.put, List.setIfInBounds_toArray, List.set_cons_zero, List.set_cons_succ, i64_w, i32_w]
                  rfl
                 refine pureS (i := 24) (N := some 67) (any_of HT_.out (by kernel_rfl)) ?_
                 refine pureS (i := 25) (N := some 68) (any_of HT_.out (by kernel_rfl)) ?_
                 refine pureS (i := 26) (N := some 69) (any_of HT_.out (by kernel_rfl)) ?_
                 refine done_ (done_of HT_.out (by kernel_rfl)) ?_
                 try go_wp2
                 go_roundg k3
                 case measure => have := HK1.out; have := HJ11.out; have := HK3.out; omega
                 case rel => exact ⟨(wrap64 (x4_3 + 1)), (eW), H', ⟨by have := HK1.out; have := HJ11.out; have := HK3.out; omega⟩, ⟨(bP BK487.out)⟩, ⟨bW⟩⟩
                ·replace c33 := Bool.eq_false_iff.mpr c33
                 subst c33
                 have H1 : (some false) = some r := by rw [if_neg (show ¬ (false = true) by decide)] at H; exact H
                 clear H
                 have H := H1
                 clear H1
                 obtain rfl := Option.some.inj H
                 have hcz37_0 : wr.cell? ⟨gb487, 0, none⟩ = some (.slice A0_0 l0_0.length c0_0) := (blk_cell BK487.out 0).trans rfl
                 have hcz37_1 : wr.cell? ⟨gb487, 1, none⟩ = some (.slice A0_1 l0_1.length c0_1) := (blk_cell BK487.out 1).trans rfl
                 have hcz37_2 : wr.cell? ⟨gb487, 2, none⟩ = some (.slice A0_2 l0_2.length c0_2) := (blk_cell BK487.out 2).trans rfl
                 have hcz37_3 : wr.cell? ⟨gb487, 3, none⟩ = some (.slice A0_3 l0_3.length c0_3) := (blk_cell BK487.out 3).trans rfl
                 have hcz37_4 : wr.cell? ⟨gb487, 4, none⟩ = some (.slice A0_4 l0_4.length c0_4) := (blk_cell BK487.out 4).trans rfl
                 have hfz37_0 := blk_frozen BK487.out 0
                 have hfz37_1 := blk_frozen BK487.out 1
                 have hfz37_2 := blk_frozen BK487.out 2
                 have hfz37_3 := blk_frozen BK487.out 3
                 have hfz37_4 := blk_frozen BK487.out 4
                 try go_wp2
                 have n0_ := Aside0.mk (blk_drew BK487.out)
                 have n1_ := Aside0.mk (below_drew1 HB.out)
                 clear BK487
                 clear HB
                 have BK487 := n0_
                 have HB := n1_
                 clear n0_ n1_
                 have p493 : 0 ≤ (x4_3 : Int) := ofD
                 have q493 : x4_3 < (l0_4.length : Int) := ofD
                 obtain ⟨ad493, A493_0, c493_0, e493, hx493_0, hl493_0, hi493_0⟩ := at_L1 HR0_4.out x4_3 p493 q493
                 have hw493_0 := hx493_0
                 cases e493
                 replace hx493_0 := (HB.out.cell (World.block_lt_of_cell? w _ hx493_0)).trans hx493_0
                 have HR493_0 := Aside0.mk hi493_0
                 have HC493_0 := Aside0.mk hl493_0
                 clear hi493_0 hl493_0
                 replace p493 := eq_true p493
                 replace q493 := eq_true q493
                 have p495 : 0 ≤ ((ji29) : Int) := ofD
                 have q495 : (ji29) < (l0_4.length : Int) := ofD
                 obtain ⟨ad495, A495_0, c495_0, e495, hx495_0, hl495_0, hi495_0⟩ := at_L1 HR0_4.out (ji29) p495 q495
                 have hw495_0 := hx495_0
                 obtain rfl : ad493 = ad495 := (by injection e495)
                 replace hx495_0 := (HB.out.cell (World.block_lt_of_cell? w _ hx495_0)).trans hx495_0
                 have HR495_0 := Aside0.mk hi495_0
                 have HC495_0 := Aside0.mk hl495_0
                 clear hi495_0 hl495_0
                 replace p495 := eq_true p495
                 replace q495 := eq_true q495
                 have p496 : 0 ≤ (x4_3 : Int) := ofD
                 have q496 : x4_3 < (l0_4.length : Int) := ofD
                 obtain ⟨ad496, A496_0, c496_0, e496, hx496_0, hl496_0, hi496_0⟩ := at_L1 HR0_4.out x4_3 p496 q496
                 have hw496_0 := hx496_0
                 obtain rfl : ad493 = ad496 := (by injection e496)
                 (try (have d496_0 : A496_0 = A493_0 ∧ c496_0 = c493_0 := (by have e_ := hw496_0.symm.trans hw493_0; simpa using e_)))
                 replace hx496_0 := (HB.out.cell (World.block_lt_of_cell? w _ hx496_0)).trans hx496_0
                 have HR496_0 := Aside0.mk hi496_0
                 have HC496_0 := Aside0.mk hl496_0
                 clear hi496_0 hl496_0
                 replace p496 := eq_true p496
                 replace q496 := eq_true q496
                 refine start_ (n := 27) (S := fun w' => w'.cell? ⟨gb487, 0, none⟩ = some (.slice A0_0 l0_0.length c0_0) ∧ w'.cell? ⟨gb487, 1, none⟩ = some (.slice A0_1 l0_1.length c0_1) ∧ w'.cell? ⟨gb487, 2, none⟩ = some (.slice A0_2 l0_2.length c0_2) ∧ w'.cell? ⟨gb487, 3, none⟩ = some (.slice A0_3 l0_3.length c0_3) ∧ w'.cell? ⟨gb487, 4, none⟩ = some (.slice (some ad493) l0_4.length c0_4) ∧ w'.cell? (ad493.add (x4_3).toNat) = some (.slice A493_0 (rd_L1 l0_4 x4_3).length c493_0) ∧ w'.cell? (ad493.add ((ji29)).toNat) = some (.slice A495_0 (rd_L1 l0_4 (ji29)).length c495_0) ∧ w'.cell? (ad493.add (x4_3).toNat) = some (.slice A496_0 (rd_L1 l0_4 x4_3).length c496_0)) (ds := []) #[false, false, false, false, false, false, false, false, false, false, false, false, false, false, false, false, false, false, false, false, false, false, false, false, false, false, false] (by kernel_rfl) rfl rfl ⟨(blk_cell BK487.out 0).trans rfl, (blk_cell BK487.out 1).trans rfl, (blk_cell BK487.out 2).trans rfl, (blk_cell BK487.out 3).trans rfl, (blk_cell BK487.out 4).trans rfl, ((HB.out.cell (World.block_lt_of_cell? w _ hw493_0)).trans hw493_0), ((HB.out.cell (World.block_lt_of_cell? w _ hw495_0)).trans hw495_0), ((HB.out.cell (World.block_lt_of_cell? w _ hw496_0)).trans hw496_0)⟩ (fun hHeld => ?_); refine with_tabW spec_IsAsynchronous.tab13 spec_IsAsynchronous.bits13 (fun HT_ HW_ => ?_)
                 generalize wr.drew = w38 at BK487 HB HR493_0 HR495_0 HR496_0 hx493_0 hx495_0 hx496_0 hHeld ⊢
                 refine pureS (i := 1) (N := some 44) (any_of HT_.out (by kernel_rfl)) ?_
                 refine pureS (i := 3) (N := some 46) (any_of HT_.out (by kernel_rfl)) ?_
                 refine takeS (i := 0) (N := some 43) (take_ofW HT_.out HW_.out (by kernel_rfl)) hHeld ?_
                 refine takeS (i := 2) (N := some 45) (take_ofW HT_.out HW_.out (by kernel_rfl)) hHeld ?_
                 refine pureS (i := 4) (N := some 47) (any_of HT_.out (by kernel_rfl)) ?_
                 refine takeS (i := 5) (N := some 48) (take_ofW HT_.out HW_.out (by kernel_rfl)) hHeld ?_
                 refine one_ (i := 6) (N := some 49) #[true, true, true, true, true, true, true, false, false, false, false, false, false, false, false, false, false, false, false, false, false, false, false, false, false, false, false] rfl rfl (one_of HT_.out (by kernel_rfl)) (by decide) (fun K hK => ?_)
                 refine goes_ Tryd.func75 (by kernel_rfl) rfl #[.agg #[.slice A0_0 l0_0.length c0_0, .slice A0_1 l0_1.length c0_1, .slice A0_2 l0_2.length c0_2, .slice A0_3 l0_3.length c0_3, .slice (some ad493) l0_4.length c0_4], .slice A493_0 (rd_L1 l0_4 x4_3).length c493_0] (by rfl) rfl rfl (by (try simp only [List.map_toArray, List.map_cons, List.map_nil]); first | done | (simp only [d496_0.1, d496_0.2]; rfl) | rfl | (simp only [List.length_drop, List.length_take]; rfl)) ?_
                 with_reducible refine (spec_l14Global.calls k3 _ _ l0_0 _ _ l0_1 _ _ l0_2 _ _ l0_3 _ _ l0_4 _ _ (rd_L1 l0_4 x4_3) true _ ?side1 ?side2 ?side3 ?side4 ?side5 ?side6 ?side7 ?side8 ?side9 ?side10 ?side11 ?side12 A26.out).mono ?_
                 (case side1 => exact cP (Kd.C_below HR0_0.out HB.out))
                 (case side2 => exact HC0_0.out)
                 (case side3 => exact cP (Kd.C_below HR0_1.out HB.out))
                 (case side4 => exact HC0_1.out)
                 (case side5 => exact cP (Kd.C_below HR0_2.out HB.out))
                 (case side6 => exact HC0_2.out)
                 (case side7 => exact cP (Kd.C_below HR0_3.out HB.out))
                 (case side8 => exact HC0_3.out)
                 (case side9 => exact cP (Kd.C_below HR0_4.out HB.out))
                 (case side10 => exact HC0_4.out)
                 (case side11 => exact cP (Kd.C_below HR493_0.out HB.out))
                 (case side12 => exact HC493_0.out)
                 rintro e w39 ⟨rfl, hb⟩
                 refine ⟨_, rfl, ?_⟩
                 have n0_ := Aside0.mk (blkB BK487.out hb)
                 have n1_ := Aside0.mk (below_step (bW) hb)
                 clear BK487
                 clear HB
                 have BK487 := n0_
                 have HB := n1_
                 clear n0_ n1_
                 (try clear hb)
                 (try clear hb2)
                 (try clear hk)
                 (try clear hi)
                 refine hK.out _ _ ⟨(blk_cell BK487.out 0).trans rfl, (blk_cell BK487.out 1).trans rfl, (blk_cell BK487.out 2).trans rfl, (blk_cell BK487.out 3).trans rfl, (blk_cell BK487.out 4).trans rfl, ((HB.out.cell (World.block_lt_of_cell? w _ hw493_0)).trans hw493_0), ((HB.out.cell (World.block_lt_of_cell? w _ hw495_0)).trans hw495_0), ((HB.out.cell (World.block_lt_of_cell? w _ hw496_0)).trans hw496_0)⟩ (fun hHeld => ?_)
                 clear hK K
                 refine norm_ (a' := ?_) ?_ ?_
                 rotate_left
                 ·show Act.put _ (some 49) _ = _
                  simp only [Act.put, List.setIfInBounds_toArray, List.set_cons_zero, List.set_cons_succ, i64_w, i32_w]
                  rfl
                 refine pureS (i := 7) (N := some 50) (any_of HT_.out (by kernel_rfl)) ?_
                 refine pureS (i := 8) (N := some 51) (any_of HT_.out (by kernel_rfl)) ?_
                 refine pureS (i := 9) (N := some 52) (any_of HT_.out (by kernel_rfl)) ?_
                 refine pureS (i := 10) (N := some 53) (any_of HT_.out (by kernel_rfl)) ?_
                 refine pureS (i := 11) (N := some 54) (any_of HT_.out (by kernel_rfl)) ?_
                 refine pureS (i := 12) (N := some 55) (any_of HT_.out (by kernel_rfl)) ?_
                 refine pureS (i := 14) (N := some 57) (any_of HT_.out (by kernel_rfl)) ?_
                 refine pureS (i := 15) (N := some 58) (any_of HT_.out (by kernel_rfl)) ?_
                 refine pureS (i := 18) (N := some 61) (any_of HT_.out (by kernel_rfl)) ?_
                 refine pureS (i := 20) (N := some 63) (any_of HT_.out (by kernel_rfl)) ?_
                 refine takeS (i := 13) (N := some 56) (take_ofW HT_.out HW_.out (by kernel_rfl)) hHeld ?_
                 refine pureS (i := 16) (N := some 59) (any_of HT_.out (by kernel_rfl)) ?_
                 refine takeS (i := 17) (N := some 60) (take_ofW HT_.out HW_.out (by kernel_rfl)) hHeld ?_
                 refine takeS (i := 19) (N := some 62) (take_ofW HT_.out HW_.out (by kernel_rfl)) hHeld ?_
                 refine pureS (i := 21) (N := some 64) (any_of HT_.out (by kernel_rfl)) ?_
                 refine takeS (i := 22) (N := some 65) (take_ofW HT_.out HW_.out (by kernel_rfl)) hHeld ?_
                 refine one_ (i := 23) (N := some 66) #[true, true, true, true, true, true, true, true, true, true, true, true, true, true, true, true, true, true, true, true, true, true, true, true, false, false, false] rfl rfl (one_of HT_.out (by kernel_rfl)) (by decide) (fun K hK => ?_)
                 refine goes_ Tryd.func77 (by kernel_rfl) rfl #[.slice A495_0 (rd_L1 l0_4 (ji29)).length c495_0, .slice A496_0 (rd_L1 l0_4 x4_3).length c496_0] (by rfl) rfl rfl (by (try simp only [List.map_toArray, List.map_cons, List.map_nil]); first | done | (simp only [d496_0.1, d496_0.2]; rfl) | (simp only [hji29]; rfl) | rfl | (simp only [List.length_drop, List.length_take]; rfl)) ?_
                 with_reducible refine (spec_l01Less.calls k3 _ _ (rd_L1 l0_4 (ji29)) _ _ (rd_L1 l0_4 x4_3) false _ ?side1 ?side2 ?side3 ?side4 A32.out).mono ?_
                 (case side1 => exact cP (Kd.C_below HR495_0.out HB.out))
                 (case side2 => exact HC495_0.out)
                 (case side3 => exact cP (Kd.C_below HR496_0.out HB.out))
                 (case side4 => exact HC496_0.out)
                 rintro e w' ⟨rfl, ⟨nd, rfl⟩⟩
                 refine ⟨_, rfl, ?_⟩
                 refine hK.out _ _ ⟨(blk_cell BK487.out 0).trans rfl, (blk_cell BK487.out 1).trans rfl, (blk_cell BK487.out 2).trans rfl, (blk_cell BK487.out 3).trans rfl, (blk_cell BK487.out 4).trans rfl, ((HB.out.cell (World.block_lt_of_cell? w _ hw493_0)).trans hw493_0), ((HB.out.cell (World.block_lt_of_cell? w _ hw495_0)).trans hw495_0), ((HB.out.cell (World.block_lt_of_cell? w _ hw496_0)).trans hw496_0)⟩ (fun hHeld => ?_)
                 clear hK K
                 refine norm_ (a' := ?_) ?_ ?_
                 rotate_left
                 ·show Act.put _ (some 66) _ = _
                  simp only [Act.put, List.setIfInBounds_toArray, List.set_cons_zero, List.set_cons_succ, i64_w, i32_w]
                  rfl
                 refine pureS (i := 24) (N := some 67) (any_of HT_.out (by kernel_rfl)) ?_
                 refine pureS (i := 25) (N := some 68) (any_of HT_.out (by kernel_rfl)) ?_
                 refine pureS (i := 26) (N := some 69) (any_of HT_.out (by kernel_rfl)) ?_
                 refine done_ (done_of HT_.out (by kernel_rfl)) ?_
                 try go_wp2
                 go_ret
                 exact ⟨by first | rfl | (simp [errW_none, errW_some] <;> rfl) | (simp only [← hji29]; first | rfl | (simp [errW_none, errW_some] <;> rfl)) | (simp [*, errW_none, errW_some] <;> rfl), bW⟩
               ·rw [if_neg c31] at H
                exact absurd H (by simp)
              ·rw [if_neg c30] at H
               exact absurd H (by simp)
             ·rw [if_neg c28] at H
              have c28b0 : decide (0 < x4_3) = false := decide_eq_false c28
              clear c28
              have H' := Aside0.mk H
              clear H
              have hcz40_0 : wr.cell? ⟨gb487, 0, none⟩ = some (.slice A0_0 l0_0.length c0_0) := (blk_cell BK487.out 0).trans rfl
              have hcz40_1 : wr.cell? ⟨gb487, 1, none⟩ = some (.slice A0_1 l0_1.length c0_1) := (blk_cell BK487.out 1).trans rfl
              have hcz40_2 : wr.cell? ⟨gb487, 2, none⟩ = some (.slice A0_2 l0_2.length c0_2) := (blk_cell BK487.out 2).trans rfl
              have hcz40_3 : wr.cell? ⟨gb487, 3, none⟩ = some (.slice A0_3 l0_3.length c0_3) := (blk_cell BK487.out 3).trans rfl
              have hcz40_4 : wr.cell? ⟨gb487, 4, none⟩ = some (.slice A0_4 l0_4.length c0_4) := (blk_cell BK487.out 4).trans rfl
              have hfz40_0 := blk_frozen BK487.out 0
              have hfz40_1 := blk_frozen BK487.out 1
              have hfz40_2 := blk_frozen BK487.out 2
              have hfz40_3 := blk_frozen BK487.out 3
              have hfz40_4 := blk_frozen BK487.out 4
              try go_wp2
              have n0_ := Aside0.mk (blk_drew BK487.out)
              have n1_ := Aside0.mk (below_drew1 HB.out)
              clear BK487
              clear HB
              have BK487 := n0_
              have HB := n1_
              clear n0_ n1_
              have p493 : 0 ≤ (x4_3 : Int) := ofD
              have q493 : x4_3 < (l0_4.length : Int) := ofD
              obtain ⟨ad493, A493_0, c493_0, e493, hx493_0, hl493_0, hi493_0⟩ := at_L1 HR0_4.out x4_3 p493 q493
              have hw493_0 := hx493_0
              cases e493
              replace hx493_0 := (HB.out.cell (World.block_lt_of_cell? w _ hx493_0)).trans hx493_0
              have HR493_0 := Aside0.mk hi493_0
              have HC493_0 := Aside0.mk hl493_0
              clear hi493_0 hl493_0
              replace p493 := eq_true p493
              replace q493 := eq_true q493
              refine start_ (n := 27) (S := fun w' => w'.cell? ⟨gb487, 0, none⟩ = some (.slice A0_0 l0_0.length c0_0) ∧ w'.cell? ⟨gb487, 1, none⟩ = some (.slice A0_1 l0_1.length c0_1) ∧ w'.cell? ⟨gb487, 2, none⟩ = some (.slice A0_2 l0_2.length c0_2) ∧ w'.cell? ⟨gb487, 3, none⟩ = some (.slice A0_3 l0_3.length c0_3) ∧ w'.cell? ⟨gb487, 4, none⟩ = some (.slice (some ad493) l0_4.length c0_4) ∧ w'.cell? (ad493.add (x4_3).toNat) = some (.slice A493_0 (rd_L1 l0_4 x4_3).length c493_0)) (ds := []) #[false, false, false, false, false, false, false, false, false, false, false, false, false, false, false, false, false, false, false, false, false, false, false, false, false, false, false] (by kernel_rfl) rfl rfl ⟨(blk_cell BK487.out 0).trans rfl, (blk_cell BK487.out 1).trans rfl, (blk_cell BK487.out 2).trans rfl, (blk_cell BK487.out 3).trans rfl, (blk_cell BK487.out 4).trans rfl, ((HB.out.cell (World.block_lt_of_cell? w _ hw493_0)).trans hw493_0)⟩ (fun hHeld => ?_); refine with_tabW spec_IsAsynchronous.tab13 spec_IsAsynchronous.bits13 (fun HT_ HW_ => ?_)
              generalize wr.drew = w41 at BK487 HB HR493_0 hx493_0 hHeld ⊢
              refine pureS (i := 1) (N := some 44) (any_of HT_.out (by kernel_rfl)) ?_
              refine pureS (i := 3) (N := some 46) (any_of HT_.out (by kernel_rfl)) ?_
              refine takeS (i := 0) (N := some 43) (take_ofW HT_.out HW_.out (by kernel_rfl)) hHeld ?_
              refine takeS (i := 2) (N := some 45) (take_ofW HT_.out HW_.out (by kernel_rfl)) hHeld ?_
              refine pureS (i := 4) (N := some 47) (any_of HT_.out (by kernel_rfl)) ?_
              refine takeS (i := 5) (N := some 48) (take_ofW HT_.out HW_.out (by kernel_rfl)) hHeld ?_
              refine one_ (i := 6) (N := some 49) #[true, true, true, true, true, true, true, false, false, false, false, false, false, false, false, false, false, false, false, false, false, false, false, false, false, false, false] rfl rfl (one_of HT_.out (by kernel_rfl)) (by decide) (fun K hK => ?_)
              refine goes_ Tryd.func75 (by kernel_rfl) rfl #[.agg #[.slice A0_0 l0_0.length c0_0, .slice A0_1 l0_1.length c0_1, .slice A0_2 l0_2.length c0_2, .slice A0_3 l0_3.length c0_3, .slice (some ad493) l0_4.length c0_4], .slice A493_0 (rd_L1 l0_4 x4_3).length c493_0] (by rfl) rfl rfl (by (try simp only [List.map_toArray, List.map_cons, List.map_nil]); first | done | rfl | (simp only [List.length_drop, List.length_take]; rfl)) ?_
              with_reducible refine (spec_l14Global.calls k3 _ _ l0_0 _ _ l0_1 _ _ l0_2 _ _ l0_3 _ _ l0_4 _ _ (rd_L1 l0_4 x4_3) true _ ?side1 ?side2 ?side3 ?side4 ?side5 ?side6 ?side7 ?side8 ?side9 ?side10 ?side11 ?side12 A26.out).mono ?_
              (case side1 => exact cP (Kd.C_below HR0_0.out HB.out))
              (case side2 => exact HC0_0.out)
              (case side3 => exact cP (Kd.C_below HR0_1.out HB.out))
              (case side4 => exact HC0_1.out)
              (case side5 => exact cP (Kd.C_below HR0_2.out HB.out))
              (case side6 => exact HC0_2.out)
              (case side7 => exact cP (Kd.C_below HR0_3.out HB.out))
              (case side8 => exact HC0_3.out)
              (case side9 => exact cP (Kd.C_below HR0_4.out HB.out))
              (case side10 => exact HC0_4.out)
              (case side11 => exact cP (Kd.C_below HR493_0.out HB.out))
              (case side12 => exact HC493_0.out)
              rintro e w42 ⟨rfl, hb⟩
              refine ⟨_, rfl, ?_⟩
              have n0_ := Aside0.mk (blkB BK487.out hb)
              have n1_ := Aside0.mk (below_step (bW) hb)
              clear BK487
              clear HB
              have BK487 := n0_
              have HB := n1_
              clear n0_ n1_
              (try clear hb)
              (try clear hb2)
              (try clear hk)
              (try clear hi)
              refine hK.out _ _ ⟨(blk_cell BK487.out 0).trans rfl, (blk_cell BK487.out 1).trans rfl, (blk_cell BK487.out 2).trans rfl, (blk_cell BK487.out 3).trans rfl, (blk_cell BK487.out 4).trans rfl, ((HB.out.cell (World.block_lt_of_cell? w _ hw493_0)).trans hw493_0)⟩ (fun hHeld => ?_)
              clear hK K
              refine norm_ (a' := ?_) ?_ ?_
              rotate_left
              ·show Act.put _ (some 49) _ = _
               simp only [Act.put, List.setIfInBounds_toArray, List.set_cons_zero, List.set_cons_succ, i64_w, i32_w]
               rfl
              refine pureS (i := 7) (N := some 50) (any_of HT_.out (by kernel_rfl)) ?_
              refine pureS (i := 8) (N := some 51) (any_of HT_.out (by kernel_rfl)) ?_
              refine pureS (i := 9) (N := some 52) (any_of HT_.out (by kernel_rfl)) ?_
              refine pureS (i := 10) (N := some 53) (any_of HT_.out (by kernel_rfl)) ?_
              refine pureS (i := 11) (N := some 54) (any_of HT_.out (by kernel_rfl)) ?_
              refine pureU (i := 12) (N := some 55) (any_of HT_.out (by kernel_rfl)) ?_
              refine pureU (i := 13) (N := some 56) (any_of HT_.out (by kernel_rfl)) ?_
              refine pureU (i := 14) (N := some 57) (any_of HT_.out (by kernel_rfl)) ?_
              refine pureU (i := 15) (N := some 58) (any_of HT_.out (by kernel_rfl)) ?_
              refine pureU (i := 16) (N := some 59) (any_of HT_.out (by kernel_rfl)) ?_
              refine pureU (i := 17) (N := some 60) (any_of HT_.out (by kernel_rfl)) ?_
              refine pureU (i := 18) (N := some 61) (any_of HT_.out (by kernel_rfl)) ?_
              refine pureU (i := 19) (N := some 62) (any_of HT_.out (by kernel_rfl)) ?_
              refine pureU (i := 20) (N := some 63) (any_of HT_.out (by kernel_rfl)) ?_
              refine pureU (i := 21) (N := some 64) (any_of HT_.out (by kernel_rfl)) ?_
              refine pureU (i := 22) (N := some 65) (any_of HT_.out (by kernel_rfl)) ?_
              refine pureU (i := 23) (N := some 66) (any_of HT_.out (by kernel_rfl)) ?_
              refine pureU (i := 24) (N := some 67) (any_of HT_.out (by kernel_rfl)) ?_
              refine pureS (i := 25) (N := some 68) (any_of HT_.out (by kernel_rfl)) ?_
              refine pureS (i := 26) (N := some 69) (any_of HT_.out (by kernel_rfl)) ?_
              refine done_ (done_of HT_.out (by kernel_rfl)) ?_
              try go_wp2
              go_roundg k3
              case measure => have := HK1.out; have := HJ11.out; have := HK3.out; omega
              case rel => exact ⟨(wrap64 (x4_3 + 1)), (eW), H', ⟨by have := HK1.out; have := HJ11.out; have := HK3.out; omega⟩, ⟨(bP BK487.out)⟩, ⟨bW⟩⟩
            ·replace c27 := Bool.eq_false_iff.mpr c27
             subst c27
             have H1 : (some false) = some r := by rw [if_neg (show ¬ (false = true) by decide)] at H; exact H
             clear H
             have H := H1
             clear H1
             obtain rfl := Option.some.inj H
             have hcz43_0 : wr.cell? ⟨gb487, 0, none⟩ = some (.slice A0_0 l0_0.length c0_0) := (blk_cell BK487.out 0).trans rfl
             have hcz43_1 : wr.cell? ⟨gb487, 1, none⟩ = some (.slice A0_1 l0_1.length c0_1) := (blk_cell BK487.out 1).trans rfl
             have hcz43_2 : wr.cell? ⟨gb487, 2, none⟩ = some (.slice A0_2 l0_2.length c0_2) := (blk_cell BK487.out 2).trans rfl
             have hcz43_3 : wr.cell? ⟨gb487, 3, none⟩ = some (.slice A0_3 l0_3.length c0_3) := (blk_cell BK487.out 3).trans rfl
             have hcz43_4 : wr.cell? ⟨gb487, 4, none⟩ = some (.slice A0_4 l0_4.length c0_4) := (blk_cell BK487.out 4).trans rfl
             have hfz43_0 := blk_frozen BK487.out 0
             have hfz43_1 := blk_frozen BK487.out 1
             have hfz43_2 := blk_frozen BK487.out 2
             have hfz43_3 := blk_frozen BK487.out 3
             have hfz43_4 := blk_frozen BK487.out 4
             try go_wp2
             have n0_ := Aside0.mk (blk_drew BK487.out)
             have n1_ := Aside0.mk (below_drew1 HB.out)
             clear BK487
             clear HB
             have BK487 := n0_
             have HB := n1_
             clear n0_ n1_
             have p493 : 0 ≤ (x4_3 : Int) := ofD
             have q493 : x4_3 < (l0_4.length : Int) := ofD
             obtain ⟨ad493, A493_0, c493_0, e493, hx493_0, hl493_0, hi493_0⟩ := at_L1 HR0_4.out x4_3 p493 q493
             have hw493_0 := hx493_0
             cases e493
             replace hx493_0 := (HB.out.cell (World.block_lt_of_cell? w _ hx493_0)).trans hx493_0
             have HR493_0 := Aside0.mk hi493_0
             have HC493_0 := Aside0.mk hl493_0
             clear hi493_0 hl493_0
             replace p493 := eq_true p493
             replace q493 := eq_true q493
             refine start_ (n := 27) (S := fun w' => w'.cell? ⟨gb487, 0, none⟩ = some (.slice A0_0 l0_0.length c0_0) ∧ w'.cell? ⟨gb487, 1, none⟩ = some (.slice A0_1 l0_1.length c0_1) ∧ w'.cell? ⟨gb487, 2, none⟩ = some (.slice A0_2 l0_2.length c0_2) ∧ w'.cell? ⟨gb487, 3, none⟩ = some (.slice A0_3 l0_3.length c0_3) ∧ w'.cell? ⟨gb487, 4, none⟩ = some (.slice (some ad493) l0_4.length c0_4) ∧ w'.cell? (ad493.add (x4_3).toNat) = some (.slice A493_0 (rd_L1 l0_4 x4_3).length c493_0)) (ds := []) #[false, false, false, false, false, false, false, false, false, false, false, false, false, false, false, false, false, false, false, false, false, false, false, false, false, false, false] (by kernel_rfl) rfl rfl ⟨(blk_cell BK487.out 0).trans rfl, (blk_cell BK487.out 1).trans rfl, (blk_cell BK487.out 2).trans rfl, (blk_cell BK487.out 3).trans rfl, (blk_cell BK487.out 4).trans rfl, ((HB.out.cell (World.block_lt_of_cell? w _ hw493_0)).trans hw493_0)⟩ (fun hHeld => ?_); refine with_tabW spec_IsAsynchronous.tab13 spec_IsAsynchronous.bits13 (fun HT_ HW_ => ?_)
             generalize wr.drew = w44 at BK487 HB HR493_0 hx493_0 hHeld ⊢
             refine pureS (i := 1) (N := some 44) (any_of HT_.out (by kernel_rfl)) ?_
             refine pureS (i := 3) (N := some 46) (any_of HT_.out (by kernel_rfl)) ?_
             refine takeS (i := 0) (N := some 43) (take_ofW HT_.out HW_.out (by kernel_rfl)) hHeld ?_
             refine takeS (i := 2) (N := some 45) (take_ofW HT_.out HW_.out (by kernel_rfl)) hHeld ?_
             refine pureS (i := 4) (N := some 47) (any_of HT_.out (by kernel_rfl)) ?_
             refine takeS (i := 5) (N := some 48) (take_ofW HT_.out HW_.out (by kernel_rfl)) hHeld ?_
             refine one_ (i := 6) (N := some 49) #[true, true, true, true, true, true, true, false, false, false, false, false, false, false, false, false, false, false, false, false, false, false, false, false, false, false, false] rfl rfl (one_of HT_.out (by kernel_rfl)) (by decide) (fun K hK => ?_)
             refine goes_ Tryd.func75 (by kernel_rfl) rfl #[.agg #[.slice A0_0 l0_0.length c0_0, .slice A0_1 l0_1.length c0_1, .slice A0_2 l0_2.length c0_2, .slice A0_3 l0_3.length c0_3, .slice (some ad493) l0_4.length c0_4], .slice A493_0 (rd_L1 l0_4 x4_3).length c493_0] (by rfl) rfl rfl (by (try simp only [List.map_toArray, List.map_cons, List.map_nil]); first | done | rfl | (simp only [List.length_drop, List.length_take]; rfl)) ?_
             with_reducible refine (spec_l14Global.calls k3 _ _ l0_0 _ _ l0_1 _ _ l0_2 _ _ l0_3 _ _ l0_4 _ _ (rd_L1 l0_4 x4_3) false _ ?side1 ?side2 ?side3 ?side4 ?side5 ?side6 ?side7 ?side8 ?side9 ?side10 ?side11 ?side12 A26.out).mono ?_
             (case side1 => exact cP (Kd.C_below HR0_0.out HB.out))
             (case side2 => exact HC0_0.out)
             (case side3 => exact cP (Kd.C_below HR0_1.out HB.out))
             (case side4 => exact HC0_1.out)
             (case side5 => exact cP (Kd.C_below HR0_2.out HB.out))
             (case side6 => exact HC0_2.out)
             (case side7 => exact cP (Kd.C_below HR0_3.out HB.out))
             (case side8 => exact HC0_3.out)
             (case side9 => exact cP (Kd.C_below HR0_4.out HB.out))
             (case side10 => exact HC0_4.out)
             (case side11 => exact cP (Kd.C_below HR493_0.out HB.out))
             (case side12 => exact HC493_0.out)
             rintro e w45 ⟨rfl, hb⟩
             refine ⟨_, rfl, ?_⟩
             have n0_ := Aside0.mk (blkB BK487.out hb)
             have n1_ := Aside0.mk (below_step (bW) hb)
             clear BK487
             clear HB
             have BK487 := n0_
             have HB := n1_
             clear n0_ n1_
             (try clear hb)
             (try clear hb2)
             (try clear hk)
             (try clear hi)
             refine hK.out _ _ ⟨(blk_cell BK487.out 0).trans rfl, (blk_cell BK487.out 1).trans rfl, (blk_cell BK487.out 2).trans rfl, (blk_cell BK487.out 3).trans rfl, (blk_cell BK487.out 4).trans rfl, ((HB.out.cell (World.block_lt_of_cell? w _ hw493_0)).trans hw493_0)⟩ (fun hHeld => ?_)
             clear hK K
             refine norm_ (a' := ?_) ?_ ?_
             rotate_left
             ·show Act.put _ (some 49) _ = _
              simp only [Act.put, List.setIfInBounds_toArray, List.set_cons_zero, List.set_cons_succ, i64_w, i32_w]
              rfl
             refine pureS (i := 7) (N := some 50) (any_of HT_.out (by kernel_rfl)) ?_
             refine pureS (i := 8) (N := some 51) (any_of HT_.out (by kernel_rfl)) ?_
             refine pureU (i := 9) (N := some 52) (any_of HT_.out (by kernel_rfl)) ?_
             refine pureU (i := 10) (N := some 53) (any_of HT_.out (by kernel_rfl)) ?_
             refine pureU (i := 11) (N := some 54) (any_of HT_.out (by kernel_rfl)) ?_
             refine pureU (i := 12) (N := some 55) (any_of HT_.out (by kernel_rfl)) ?_
             refine pureU (i := 13) (N := some 56) (any_of HT_.out (by kernel_rfl)) ?_
             refine pureU (i := 14) (N := some 57) (any_of HT_.out (by kernel_rfl)) ?_
             refine pureU (i := 15) (N := some 58) (any_of HT_.out (by kernel_rfl)) ?_
             refine pureU (i := 16) (N := some 59) (any_of HT_.out (by kernel_rfl)) ?_
             refine pureU (i := 17) (N := some 60) (any_of HT_.out (by kernel_rfl)) ?_
             refine pureU (i := 18) (N := some 61) (any_of HT_.out (by kernel_rfl)) ?_
             refine pureU (i := 19) (N := some 62) (any_of HT_.out (by kernel_rfl)) ?_
             refine pureU (i := 20) (N := some 63) (any_of HT_.out (by kernel_rfl)) ?_
             refine pureU (i := 21) (N := some 64) (any_of HT_.out (by kernel_rfl)) ?_
             refine pureU (i := 22) (N := some 65) (any_of HT_.out (by kernel_rfl)) ?_
             refine pureU (i := 23) (N := some 66) (any_of HT_.out (by kernel_rfl)) ?_
             refine pureU (i := 24) (N := some 67) (any_of HT_.out (by kernel_rfl)) ?_
             refine pureU (i := 25) (N := some 68) (any_of HT_.out (by kernel_rfl)) ?_
             refine pureS (i := 26) (N := some 69) (any_of HT_.out (by kernel_rfl)) ?_
             refine done_ (done_of HT_.out (by kernel_rfl)) ?_
             try go_wp2
             go_ret
             exact ⟨eW, bW⟩
           ·rw [if_neg c25] at H
            exact absurd H (by simp)
          ·rw [if_neg c24] at H
           have c24b0 : decide (x4_3 < (l0_4.length : Int)) = false := decide_eq_false c24
           clear c24
           obtain rfl := Option.some.inj H
           have hcz46_0 : wr.cell? ⟨gb487, 0, none⟩ = some (.slice A0_0 l0_0.length c0_0) := (blk_cell BK487.out 0).trans rfl
           have hcz46_1 : wr.cell? ⟨gb487, 1, none⟩ = some (.slice A0_1 l0_1.length c0_1) := (blk_cell BK487.out 1).trans rfl
           have hcz46_2 : wr.cell? ⟨gb487, 2, none⟩ = some (.slice A0_2 l0_2.length c0_2) := (blk_cell BK487.out 2).trans rfl
           have hcz46_3 : wr.cell? ⟨gb487, 3, none⟩ = some (.slice A0_3 l0_3.length c0_3) := (blk_cell BK487.out 3).trans rfl
           have hcz46_4 : wr.cell? ⟨gb487, 4, none⟩ = some (.slice A0_4 l0_4.length c0_4) := (blk_cell BK487.out 4).trans rfl
           have hfz46_0 := blk_frozen BK487.out 0
           have hfz46_1 := blk_frozen BK487.out 1
           have hfz46_2 := blk_frozen BK487.out 2
           have hfz46_3 := blk_frozen BK487.out 3
           have hfz46_4 := blk_frozen BK487.out 4
           go_wp2
           go_ret
           exact ⟨eW, bW⟩
 ·replace c3 := Bool.eq_false_iff.mpr c3
  subst c3
  have H1 : (some false) = some r := by rw [if_neg (show ¬ (false = true) by decide)] at H; exact H
  clear H
  have H := H1
  clear H1
  obtain rfl := Option.some.inj H
  go_enter Tryd.func38, Tryd.ntmps38
  go_wp2_with (first | ((with_reducible refine gate_dst (N := 1) rfl ?_); refine boxS (N := 1) (cs := #[.slice A0_0 l0_0.length c0_0, .slice A0_1 l0_1.length c0_1, .slice A0_2 l0_2.length c0_2, .slice A0_3 l0_3.length c0_3, .slice A0_4 l0_4.length c0_4]) (t := 65) ?_; intro gb487 hg w47 hbox hb; have n0_ := Aside0.mk (below_step (bW) hb); have n1_ := Aside0.mk (hbox); have n2_ := geW (w := w) hg; have n3_ := geW (w := w) hg; clear HB; have HB := n0_; have BK487 := n1_; have GW487 := n2_; have GE487 := n3_; clear n0_ n1_ n2_ n3_; clear hb hbox hg; have hcz48_0 : w47.cell? ⟨gb487, 0, none⟩ = some (.slice A0_0 l0_0.length c0_0) := (blk_cell BK487.out 0).trans rfl; have hcz48_1 : w47.cell? ⟨gb487, 1, none⟩ = some (.slice A0_1 l0_1.length c0_1) := (blk_cell BK487.out 1).trans rfl; have hcz48_2 : w47.cell? ⟨gb487, 2, none⟩ = some (.slice A0_2 l0_2.length c0_2) := (blk_cell BK487.out 2).trans rfl; have hcz48_3 : w47.cell? ⟨gb487, 3, none⟩ = some (.slice A0_3 l0_3.length c0_3) := (blk_cell BK487.out 3).trans rfl; have hcz48_4 : w47.cell? ⟨gb487, 4, none⟩ = some (.slice A0_4 l0_4.length c0_4) := (blk_cell BK487.out 4).trans rfl; have hfz48_0 := blk_frozen BK487.out 0; have hfz48_1 := blk_frozen BK487.out 1; have hfz48_2 := blk_frozen BK487.out 2; have hfz48_3 := blk_frozen BK487.out 3; have hfz48_4 := blk_frozen BK487.out 4) | ((with_reducible refine gate_callee (f := 73) rfl ?_); refine goesS (some 10) Tryd.func73 #[.int .i64 (l0_1.length : Int), .slice A0_0 l0_0.length c0_0] ?_; (with_reducible refine (spec_l14Places.calls k (l0_1.length : Int) _ _ l0_0 false _ ?side1 ?side2 A2.out).mono ?_); (case side1 => exact cP (Kd.C_below HR0_0.out HB.out)); (case side2 => exact HC0_0.out); rintro e w' ⟨rfl, ⟨nd, rfl⟩⟩; refine ⟨_, rfl, ?_⟩))
  go_ret
  exact ⟨eW, bW⟩

end Go.Proofs.YthbaocejgjpfoaaDoor.P
end M0
