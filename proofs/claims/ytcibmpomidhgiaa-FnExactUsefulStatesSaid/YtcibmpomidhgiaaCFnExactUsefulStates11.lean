import Derived.ArgAppend
import Derived.Below
import Derived.BigQuiet
import Derived.Deep.AppendLies
import Derived.Deep.CutBlock
import Derived.Deep.DeepCutAuto
import Derived.Deep.Draws
import Derived.Deep.LoopGhost
import Derived.Deep.OwnRows
import Derived.Deep.QuietTactic
import Derived.Deep.RegionHeld3
import Derived.KernelRfl
import Derived.Laws.BitsLemmas
import Derived.Laws.BytesArg
import Derived.Laws.IdiomCopy
import Derived.Laws.MakeOwn
import Derived.Laws.OwnMore
import Derived.Laws.Rows
import Derived.Laws.Slices
import Derived.Laws.StructEq
import Derived.Lib.AppendStr
import Derived.Lib.ConvBytes
import Derived.Lib.SliceRun
import Derived.Maps.AppendAt
import Derived.OrdersHeld
import Derived.OwnWalk
import Derived.RowKit
import Derived.RowKit3
import Derived.Shelf.Abstract
import Derived.Tactics
import Derived.Test.YtcibmpomidhgiaaProg
import Derived.WalkKit
import Derived.WideLaws
import Derived.Test.YtcibmpomidhgiaaCFnExactUsefulStates2
import Derived.Test.YtcibmpomidhgiaaCFnExactUsefulStates10
section M0
namespace Go.Proofs.Ytcibmpomidhgiaa.P
open Go.RowKit Go.Proofs.Ytcibmpomidhgiaa.Sh Go.Proofs.YtcibmpomidhgiaaW.PrintWords Go.Proofs.YtcibmpomidhgiaaW.PrintLast Go.Proofs.YtcibmpomidhgiaaW.PrintMore
attribute [local go_sem] max2_int min2_int max_two min_two max_three min_three max_four min_four   -- for this text's walks alone
set_option linter.unusedVariables false
set_option linter.unusedSimpArgs false

/-! ### impl_machine_useful: function 56 -/
mutual
def impl_machine_useful.l0 : Nat → List Bool → List Bool → Bool → Int → Int → List Bool → List (List Int) → Option (List Bool)
 | 0, _, _, _, _, _, _, _ => none
 | k + 1, x3, x4, x5, x469000, x469001, x469002, x469003 => if x5 = true then (impl_machine_useful.l1 k x3 x4 false x469003 (x469003.length : Int) 0 x469000 x469001 x469002 x469003) else (impl_machine_useful.l3 k x3 x4 (x3.length : Int) 0)
def impl_machine_useful.l1 : Nat → List Bool → List Bool → Bool → List (List Int) → Int → Int → Int → Int → List Bool → List (List Int) → Option (List Bool)
 | 0, _, _, _, _, _, _, _, _, _, _ => none
 | k + 1, x3, x4, x5, x24, x25, x26, x469000, x469001, x469002, x469003 => if x26 < x25 then (if 0 ≤ x26 then (if x26 < (x24.length : Int) then (impl_machine_useful.l2 k x3 x4 x5 x26 x24 x25 x26 (rd_L1 x24 x26) ((rd_L1 x24 x26).length : Int) 0 x469000 x469001 x469002 x469003) else (none)) else (none)) else (impl_machine_useful.l0 k x3 x4 x5 x469000 x469001 x469002 x469003)
def impl_machine_useful.l2 : Nat → List Bool → List Bool → Bool → Int → List (List Int) → Int → Int → List Int → Int → Int → Int → Int → List Bool → List (List Int) → Option (List Bool)
 | 0, _, _, _, _, _, _, _, _, _, _, _, _, _, _ => none
 | k + 1, x3, x4, x5, x6, x24, x25, x26, x31, x32, x33, x469000, x469001, x469002, x469003 => if x33 < x32 then (if 0 ≤ x33 then (if x33 < (x31.length : Int) then (if (rd x31 x33) < 0 then (impl_machine_useful.l2 k x3 x4 x5 x6 x24 x25 x26 x31 x32 (wrap64 (x33 + 1)) x469000 x469001 x469002 x469003) else (if 0 ≤ x6 then (if x6 < (x3.length : Int) then (if rdOf false x3 x6 = true then (if 0 ≤ (rd x31 x33) then (if (rd x31 x33) < (x3.length : Int) then (impl_machine_useful.j3 k x3 x4 x5 x6 (rd x31 x33) x24 x25 x26 x31 x32 x33 (!(rdOf false x3 (rd x31 x33))) x469000 x469001 x469002 x469003) else (none)) else (none)) else (impl_machine_useful.j3 k x3 x4 x5 x6 (rd x31 x33) x24 x25 x26 x31 x32 x33 false x469000 x469001 x469002 x469003)) else (none)) else (none))) else (none)) else (none)) else (impl_machine_useful.l1 k x3 x4 x5 x24 x25 (wrap64 (x26 + 1)) x469000 x469001 x469002 x469003)
def impl_machine_useful.j3 : Nat → List Bool → List Bool → Bool → Int → Int → List (List Int) → Int → Int → List Int → Int → Int → Bool → Int → Int → List Bool → List (List Int) → Option (List Bool)
 | 0, _, _, _, _, _, _, _, _, _, _, _, _, _, _, _, _ => none
 | k + 1, x3, x4, x5, x6, x9, x24, x25, x26, x31, x32, x33, x49, x469000, x469001, x469002, x469003 => if x49 = true then (if 0 ≤ x9 then (if x9 < (x3.length : Int) then ((some (x3.set (x9 : Int).toNat true : List Bool)).bind fun y480 => (if x9 < (x4.length : Int) then (if rdOf false x4 x9 = true then (if 0 ≤ x6 then (if x6 < (x4.length : Int) then (if rdOf false x4 x6 = true then (impl_machine_useful.l2 k y480 x4 true x6 x24 x25 x26 x31 x32 (wrap64 (x33 + 1)) x469000 x469001 x469002 x469003) else (impl_machine_useful.l2 k y480 (x4.set (x6 : Int).toNat true) true x6 x24 x25 x26 x31 x32 (wrap64 (x33 + 1)) x469000 x469001 x469002 x469003)) else (none)) else (none)) else (impl_machine_useful.l2 k y480 x4 true x6 x24 x25 x26 x31 x32 (wrap64 (x33 + 1)) x469000 x469001 x469002 x469003)) else (none))) else (none)) else (none)) else (if 0 ≤ x9 then (if x9 < (x4.length : Int) then (if rdOf false x4 x9 = true then (if 0 ≤ x6 then (if x6 < (x4.length : Int) then (if rdOf false x4 x6 = true then (impl_machine_useful.l2 k x3 x4 x5 x6 x24 x25 x26 x31 x32 (wrap64 (x33 + 1)) x469000 x469001 x469002 x469003) else (impl_machine_useful.l2 k x3 (x4.set (x6 : Int).toNat true) true x6 x24 x25 x26 x31 x32 (wrap64 (x33 + 1)) x469000 x469001 x469002 x469003)) else (none)) else (none)) else (impl_machine_useful.l2 k x3 x4 x5 x6 x24 x25 x26 x31 x32 (wrap64 (x33 + 1)) x469000 x469001 x469002 x469003)) else (none)) else (none))
def impl_machine_useful.l3 : Nat → List Bool → List Bool → Int → Int → Option (List Bool)
 | 0, _, _, _, _ => none
 | k + 1, x3, x4, x70, x71 => if x71 < x70 then (if 0 ≤ x71 then (if x71 < (x3.length : Int) then (if rdOf false x3 x71 = true then (if x71 < (x4.length : Int) then (impl_machine_useful.l3 k (x3.set (x71 : Int).toNat (rdOf false x4 x71)) x4 x70 (wrap64 (x71 + 1))) else (none)) else (impl_machine_useful.l3 k (x3.set (x71 : Int).toNat false) x4 x70 (wrap64 (x71 + 1)))) else (none)) else (none)) else (some x3)
end
def impl_machine_useful.f (k : Nat) (a0_0 : Int) (a0_1 : Int) (l0_2 : List Bool) (l0_3 : List (List Int)) : Option (List Bool) := if 0 ≤ (l0_3.length : Int) then (if ((l0_3.length : Int) : Int).toNat ≤ 281474976710656 then ((some (List.replicate ((l0_3.length : Int) : Int).toNat false : List Bool)).bind fun y469 => ((slices_Clone_bool_bool.f l0_2).bind fun t472 => (if 0 ≤ a0_1 then (if a0_1 < (y469.length : Int) then (impl_machine_useful.l0 k (y469.set (a0_1 : Int).toNat true) t472 true a0_0 a0_1 l0_2 l0_3) else (none)) else (none)))) else (none)) else (none)
theorem impl_machine_useful.mono_l : ∀ k, (∀ y0 y1 y2 y3 y4 y5 y6, LeO (impl_machine_useful.l0 k y0 y1 y2 y3 y4 y5 y6) (impl_machine_useful.l0 (k + 1) y0 y1 y2 y3 y4 y5 y6)) ∧ (∀ y0 y1 y2 y3 y4 y5 y6 y7 y8 y9, LeO (impl_machine_useful.l1 k y0 y1 y2 y3 y4 y5 y6 y7 y8 y9) (impl_machine_useful.l1 (k + 1) y0 y1 y2 y3 y4 y5 y6 y7 y8 y9)) ∧ (∀ y0 y1 y2 y3 y4 y5 y6 y7 y8 y9 y10 y11 y12 y13, LeO (impl_machine_useful.l2 k y0 y1 y2 y3 y4 y5 y6 y7 y8 y9 y10 y11 y12 y13) (impl_machine_useful.l2 (k + 1) y0 y1 y2 y3 y4 y5 y6 y7 y8 y9 y10 y11 y12 y13)) ∧ (∀ y0 y1 y2 y3 y4 y5 y6 y7 y8 y9 y10 y11 y12 y13 y14 y15, LeO (impl_machine_useful.j3 k y0 y1 y2 y3 y4 y5 y6 y7 y8 y9 y10 y11 y12 y13 y14 y15) (impl_machine_useful.j3 (k + 1) y0 y1 y2 y3 y4 y5 y6 y7 y8 y9 y10 y11 y12 y13 y14 y15)) ∧ (∀ y0 y1 y2 y3, LeO (impl_machine_useful.l3 k y0 y1 y2 y3) (impl_machine_useful.l3 (k + 1) y0 y1 y2 y3))
 | 0 => ⟨fun _ _ _ _ _ _ _ r h => by simp [impl_machine_useful.l0] at h, fun _ _ _ _ _ _ _ _ _ _ r h => by simp [impl_machine_useful.l1] at h, fun _ _ _ _ _ _ _ _ _ _ _ _ _ _ r h => by simp [impl_machine_useful.l2] at h, fun _ _ _ _ _ _ _ _ _ _ _ _ _ _ _ _ r h => by simp [impl_machine_useful.j3] at h, fun _ _ _ _ r h => by simp [impl_machine_useful.l3] at h⟩
 | k + 1 => by
  obtain ⟨ih0, ih1, ih2, ih3, ih4⟩ := impl_machine_useful.mono_l k
  refine ⟨?_, ?_, ?_, ?_, ?_⟩
  ·intro y0 y1 y2 y3 y4 y5 y6
   unfold impl_machine_useful.l0
   repeat' first
   | (with_reducible exact ih0 _ _ _ _ _ _ _)
   | (with_reducible exact ih1 _ _ _ _ _ _ _ _ _ _)
   | (with_reducible exact ih2 _ _ _ _ _ _ _ _ _ _ _ _ _ _)
   | (with_reducible exact ih3 _ _ _ _ _ _ _ _ _ _ _ _ _ _ _ _)
   | (with_reducible exact ih4 _ _ _ _)
   | (with_reducible exact LeO.refl _)
   | (with_reducible exact LeO.none _)
   | (with_reducible refine LeO.ite ?_ ?_)
   | (with_reducible refine LeO.bind ?_ (fun _ => ?_))
   | exact ih0 _ _ _ _ _ _ _
   | exact ih1 _ _ _ _ _ _ _ _ _ _
   | exact ih2 _ _ _ _ _ _ _ _ _ _ _ _ _ _
   | exact ih3 _ _ _ _ _ _ _ _ _ _ _ _ _ _ _ _
   | exact ih4 _ _ _ _
   | exact LeO.none _
   | refine LeO.ite ?_ ?_
   | refine LeO.bind ?_ (fun _ => ?_)
  ·intro y0 y1 y2 y3 y4 y5 y6 y7 y8 y9
   unfold impl_machine_useful.l1
   repeat' first
   | (with_reducible exact ih0 _ _ _ _ _ _ _)
   | (with_reducible exact ih1 _ _ _ _ _ _ _ _ _ _)
   | (with_reducible exact ih2 _ _ _ _ _ _ _ _ _ _ _ _ _ _)
   | (with_reducible exact ih3 _ _ _ _ _ _ _ _ _ _ _ _ _ _ _ _)
   | (with_reducible exact ih4 _ _ _ _)
   | (with_reducible exact LeO.refl _)
   | (with_reducible exact LeO.none _)
   | (with_reducible refine LeO.ite ?_ ?_)
   | (with_reducible refine LeO.bind ?_ (fun _ => ?_))
   | exact ih0 _ _ _ _ _ _ _
   | exact ih1 _ _ _ _ _ _ _ _ _ _
   | exact ih2 _ _ _ _ _ _ _ _ _ _ _ _ _ _
   | exact ih3 _ _ _ _ _ _ _ _ _ _ _ _ _ _ _ _
   | exact ih4 _ _ _ _
   | exact LeO.none _
   | refine LeO.ite ?_ ?_
   | refine LeO.bind ?_ (fun _ => ?_)
  ·intro y0 y1 y2 y3 y4 y5 y6 y7 y8 y9 y10 y11 y12 y13
   unfold impl_machine_useful.l2
   repeat' first
   | (with_reducible exact ih0 _ _ _ _ _ _ _)
   | (with_reducible exact ih1 _ _ _ _ _ _ _ _ _ _)
   | (with_reducible exact ih2 _ _ _ _ _ _ _ _ _ _ _ _ _ _)
   | (with_reducible exact ih3 _ _ _ _ _ _ _ _ _ _ _ _ _ _ _ _)
   | (with_reducible exact ih4 _ _ _ _)
   | (with_reducible exact LeO.refl _)
   | (with_reducible exact LeO.none _)
   | (with_reducible refine LeO.ite ?_ ?_)
   | (with_reducible refine LeO.bind ?_ (fun _ => ?_))
   | exact ih0 _ _ _ _ _ _ _
   | exact ih1 _ _ _ _ _ _ _ _ _ _
   | exact ih2 _ _ _ _ _ _ _ _ _ _ _ _ _ _
   | exact ih3 _ _ _ _ _ _ _ _ _ _ _ _ _ _ _ _
   | exact ih4 _ _ _ _
   | exact LeO.none _
   | refine LeO.ite ?_ ?_
   | refine LeO.bind ?_ (fun _ => ?_)
  ·intro y0 y1 y2 y3 y4 y5 y6 y7 y8 y9 y10 y11 y12 y13 y14 y15
   unfold impl_machine_useful.j3
   repeat' first
   | (with_reducible exact ih0 _ _ _ _ _ _ _)
   | (with_reducible exact ih1 _ _ _ _ _ _ _ _ _ _)
   | (with_reducible exact ih2 _ _ _ _ _ _ _ _ _ _ _ _ _ _)
   | (with_reducible exact ih3 _ _ _ _ _ _ _ _ _ _ _ _ _ _ _ _)
   | (with_reducible exact ih4 _ _ _ _)
   | (with_reducible exact LeO.refl _)
   | (with_reducible exact LeO.none _)
   | (with_reducible refine LeO.ite ?_ ?_)
   | (with_reducible refine LeO.bind ?_ (fun _ => ?_))
   | exact ih0 _ _ _ _ _ _ _
   | exact ih1 _ _ _ _ _ _ _ _ _ _
   | exact ih2 _ _ _ _ _ _ _ _ _ _ _ _ _ _
   | exact ih3 _ _ _ _ _ _ _ _ _ _ _ _ _ _ _ _
   | exact ih4 _ _ _ _
   | exact LeO.none _
   | refine LeO.ite ?_ ?_
   | refine LeO.bind ?_ (fun _ => ?_)
  ·intro y0 y1 y2 y3
   unfold impl_machine_useful.l3
   repeat' first
   | (with_reducible exact ih0 _ _ _ _ _ _ _)
   | (with_reducible exact ih1 _ _ _ _ _ _ _ _ _ _)
   | (with_reducible exact ih2 _ _ _ _ _ _ _ _ _ _ _ _ _ _)
   | (with_reducible exact ih3 _ _ _ _ _ _ _ _ _ _ _ _ _ _ _ _)
   | (with_reducible exact ih4 _ _ _ _)
   | (with_reducible exact LeO.refl _)
   | (with_reducible exact LeO.none _)
   | (with_reducible refine LeO.ite ?_ ?_)
   | (with_reducible refine LeO.bind ?_ (fun _ => ?_))
   | exact ih0 _ _ _ _ _ _ _
   | exact ih1 _ _ _ _ _ _ _ _ _ _
   | exact ih2 _ _ _ _ _ _ _ _ _ _ _ _ _ _
   | exact ih3 _ _ _ _ _ _ _ _ _ _ _ _ _ _ _ _
   | exact ih4 _ _ _ _
   | exact LeO.none _
   | refine LeO.ite ?_ ?_
   | refine LeO.bind ?_ (fun _ => ?_)
theorem impl_machine_useful.mono : ∀ a0 a1 a2 a3 k, LeO (impl_machine_useful.f k a0 a1 a2 a3) (impl_machine_useful.f (k + 1) a0 a1 a2 a3) := by
 intro a0 a1 a2 a3 k
 obtain ⟨ih0, ih1, ih2, ih3, ih4⟩ := impl_machine_useful.mono_l k
 unfold impl_machine_useful.f
 repeat' first
   | (with_reducible exact ih0 _ _ _ _ _ _ _)
   | (with_reducible exact ih1 _ _ _ _ _ _ _ _ _ _)
   | (with_reducible exact ih2 _ _ _ _ _ _ _ _ _ _ _ _ _ _)
   | (with_reducible exact ih3 _ _ _ _ _ _ _ _ _ _ _ _ _ _ _ _)
   | (with_reducible exact ih4 _ _ _ _)
   | (with_reducible exact LeO.refl _)
   | (with_reducible exact LeO.none _)
   | (with_reducible refine LeO.ite ?_ ?_)
   | (with_reducible refine LeO.bind ?_ (fun _ => ?_))
   | exact ih0 _ _ _ _ _ _ _
   | exact ih1 _ _ _ _ _ _ _ _ _ _
   | exact ih2 _ _ _ _ _ _ _ _ _ _ _ _ _ _
   | exact ih3 _ _ _ _ _ _ _ _ _ _ _ _ _ _ _ _
   | exact ih4 _ _ _ _
   | exact LeO.none _
   | refine LeO.ite ?_ ?_
   | refine LeO.bind ?_ (fun _ => ?_)
def impl_machine_useful.T1 : Bool × List (List Nat × List Nat) := (true, [([], []), ([0], [0]), ([1], [1]), ([2, 2], [2]), ([], []), ([4], [4]), ([5], [5]), ([3, 6, 0, 1, 2, 3], [3]), ([6, 7, 0, 1, 2, 3, 4, 5, 6, 7], [6])])
def impl_machine_useful.B1 : List Nat := [0, 1, 3, 7, 0, 16, 48, 127, 255]
theorem impl_machine_useful.tab1 : rtab .any (opsOf Try.f56 1) = impl_machine_useful.T1 := by kernel_rfl
theorem impl_machine_useful.bits1 : waitsOk impl_machine_useful.T1.2 impl_machine_useful.B1 = true := by kernel_rfl
set_option maxHeartbeats 8000000 in
set_option maxRecDepth 100000 in
theorem impl_machine_useful.calls (k : Nat) (a0_0 : Int) (a0_1 : Int) (A0_2 : Option Addr) (c0_2 : Nat) (l0_2 : List Bool) (A0_3 : Option Addr) (c0_3 : Nat) (l0_3 : List (List Int)) (r : List Bool) (w : World) (hr0_2 : Kd.C Kd.bool w A0_2 l0_2.length l0_2) (hc0_2 : l0_2.length ≤ c0_2) (hr0_3 : Kd.C (Kd.slice 2 (Kd.int .i64)) w A0_3 l0_3.length l0_3) (hc0_3 : l0_3.length ≤ c0_3) (h : impl_machine_useful.f k a0_0 a0_1 l0_2 l0_3 = some r) :
  Calls Try.prog 56 #[.agg #[.int .i64 a0_0, .int .i64 a0_1, .slice A0_2 l0_2.length c0_2, .slice A0_3 l0_3.length c0_3]] w fun e w' => ∃ v0_ : Value, e = .returned (v0_) ∧ Kd.R Kd.bool 4 w' w.heap.size (fun _ => True) v0_ r ∧ Below w.heap.size w w' := by
 have hu63 := Try.underlying63
 have HR0_2 := Aside0.mk hr0_2
 have HC0_2 := Aside0.mk hc0_2
 clear hr0_2 hc0_2
 have HR0_3 := Aside0.mk hr0_3
 have HC0_3 := Aside0.mk hc0_3
 clear hr0_3 hc0_3
 have HB := Aside0.mk (Below.refl w.heap.size w)
 have H : (if 0 ≤ (l0_3.length : Int) then (if ((l0_3.length : Int) : Int).toNat ≤ 281474976710656 then ((some (List.replicate ((l0_3.length : Int) : Int).toNat false : List Bool)).bind fun y469 => ((slices_Clone_bool_bool.f l0_2).bind fun t472 => (if 0 ≤ a0_1 then (if a0_1 < (y469.length : Int) then (impl_machine_useful.l0 k (y469.set (a0_1 : Int).toNat true) t472 true a0_0 a0_1 l0_2 l0_3) else (none)) else (none)))) else (none)) else (none)) = some r := h
 clear h
 by_cases c2 : 0 ≤ (l0_3.length : Int)
 ·rw [if_pos c2] at H
  have c2b0 := eq_true c2
  have c2b1 : decide (0 ≤ (l0_3.length : Int)) = true := decide_eq_true c2
  clear c2
  by_cases c3 : ((l0_3.length : Int) : Int).toNat ≤ 281474976710656
  ·rw [if_pos c3] at H
   have c3b0 := eq_true c3
   have c3b1 : decide (((l0_3.length : Int) : Int).toNat ≤ 281474976710656) = true := decide_eq_true c3
   clear c3
   obtain ⟨y469, hy469⟩ : ∃ y_ : List Bool, y_ = (List.replicate ((l0_3.length : Int) : Int).toNat false) := ⟨_, rfl⟩
   replace H : ((slices_Clone_bool_bool.f l0_2).bind fun t472 => (if 0 ≤ a0_1 then (if a0_1 < (y469.length : Int) then (impl_machine_useful.l0 k (y469.set (a0_1 : Int).toNat true) t472 true a0_0 a0_1 l0_2 l0_3) else (none)) else (none))) = some r := by first | (rw [hy469]; with_reducible exact H) | (have H2_ := (Option.bind_some _ _).symm.trans H; rw [hy469]; with_reducible exact H2_) | (have H2_ := (Option.bind_some _ _).symm.trans H; with_reducible exact H2_) | with_reducible exact H | (rw [hy469]; exact H) | exact H
   have Ny469 := Aside0.mk hy469
   clear hy469
   replace H := Option.bind_eq_some_iff.mp H
   obtain ⟨t472, A40, H⟩ := H
   replace H : (if 0 ≤ a0_1 then (if a0_1 < (y469.length : Int) then (impl_machine_useful.l0 k (y469.set (a0_1 : Int).toNat true) t472 true a0_0 a0_1 l0_2 l0_3) else (none)) else (none)) = some r := H
   have A4 := Aside0.mk A40
   clear A40
   by_cases c5 : 0 ≤ a0_1
   ·rw [if_pos c5] at H
    have c5b0 : decide (0 ≤ a0_1) = true := decide_eq_true c5
    clear c5
    by_cases c6 : a0_1 < (y469.length : Int)
    ·rw [if_pos c6] at H
     have c6b0 : decide (a0_1 < (y469.length : Int)) = true := decide_eq_true c6
     clear c6
     obtain ⟨y475, hy475⟩ : ∃ y_ : List Bool, y_ = (y469.set (a0_1 : Int).toNat true) := ⟨_, rfl⟩
     replace H : (impl_machine_useful.l0 k y475 t472 true a0_0 a0_1 l0_2 l0_3) = some r := by first | (rw [hy475]; with_reducible exact H) | (have H2_ := (Option.bind_some _ _).symm.trans H; rw [hy475]; with_reducible exact H2_) | (have H2_ := (Option.bind_some _ _).symm.trans H; with_reducible exact H2_) | with_reducible exact H | (rw [hy475]; exact H) | exact H
     have Ny475 := Aside0.mk hy475
     clear hy475
     have H' := Aside0.mk H
     clear H
     go_enter Try.func56, Try.ntmps56
     try go_wp2_with (first | ((with_reducible refine gate_dst (N := 1) rfl ?_); refine boxS (N := 1) (cs := #[.int .i64 a0_0, .int .i64 a0_1, .slice A0_2 l0_2.length c0_2, .slice A0_3 l0_3.length c0_3]) (t := 63) ?_; intro gb468 hg w8 hbox hb; have n0_ := Aside0.mk (below_step (bW) hb); have n1_ := Aside0.mk (hbox); have n2_ := geW (w := w) hg; have n3_ := geW (w := w) hg; clear HB; have HB := n0_; have BK468 := n1_; have GW468 := n2_; have GE468 := n3_; clear n0_ n1_ n2_ n3_; clear hb hbox hg))
     have n0_ := Aside0.mk (blk_drew BK468.out)
     have n1_ := Aside0.mk (below_drew1 HB.out)
     clear BK468
     clear HB
     have BK468 := n0_
     have HB := n1_
     clear n0_ n1_
     refine start_ (n := 9) (S := fun w' => w'.cell? ⟨gb468, 0, none⟩ = some (.int .i64 a0_0) ∧ w'.cell? ⟨gb468, 1, none⟩ = some (.int .i64 a0_1) ∧ w'.cell? ⟨gb468, 2, none⟩ = some (.slice A0_2 l0_2.length c0_2) ∧ w'.cell? ⟨gb468, 3, none⟩ = some (.slice A0_3 l0_3.length c0_3)) (ds := []) #[false, false, false, false, false, false, false, false, false] (by kernel_rfl) rfl rfl ⟨(blk_cell BK468.out 0).trans rfl, (blk_cell BK468.out 1).trans rfl, (blk_cell BK468.out 2).trans rfl, (blk_cell BK468.out 3).trans rfl⟩ (fun hHeld => ?_); refine with_tabW impl_machine_useful.tab1 impl_machine_useful.bits1 (fun HT_ HW_ => ?_)
     generalize w8.drew = w9 at BK468 HB hHeld ⊢
     refine pure_ (i := 0) (N := some 11) (v := ?_) (a' := ?_) #[true, false, false, false, false, false, false, false, false] rfl rfl (any_of HT_.out (by kernel_rfl)) (fun _ _ _ h => h) (Or.inl ⟨by rfl, ?_⟩) ?_ ?_
     rotate_left
     ·intro w'
      go_simp
      with_reducible rfl
     rotate_left
     ·simp only [Act.put, List.setIfInBounds_toArray, List.set_cons_zero, List.set_cons_succ, i64_w, i32_w]
      rfl
     refine pure_ (i := 4) (N := some 15) (v := ?_) (a' := ?_) #[true, false, false, false, true, false, false, false, false] rfl rfl (any_of HT_.out (by kernel_rfl)) (fun _ _ _ h => h) (Or.inl ⟨by rfl, ?_⟩) ?_ ?_
     rotate_left
     ·intro w'
      go_simp
      with_reducible rfl
     rotate_left
     ·simp only [Act.put, List.setIfInBounds_toArray, List.set_cons_zero, List.set_cons_succ, i64_w, i32_w]
      rfl
     refine take_ (i := 1) (N := some 12) (v := ?_) (a' := ?_) #[true, true, false, false, true, false, false, false, false] rfl rfl (take_ofW HT_.out HW_.out (by kernel_rfl)) (fun _ _ _ h => h) (Or.inl ⟨by rfl, ?_⟩) hHeld ?_ ?_
     rotate_left
     ·rintro w' ⟨s0, s1, s2, s3⟩
      go_simp
      with_reducible rfl
     rotate_left
     ·simp only [Act.put, List.setIfInBounds_toArray, List.set_cons_zero, List.set_cons_succ, i64_w, i32_w]
      rfl
     refine pure_ (i := 2) (N := some 13) (v := ?_) (a' := ?_) #[true, true, true, false, true, false, false, false, false] rfl rfl (any_of HT_.out (by kernel_rfl)) (fun _ _ _ h => h) (Or.inl ⟨by rfl, ?_⟩) ?_ ?_
     rotate_left
     ·intro w'
      go_simp
      with_reducible rfl
     rotate_left
     ·simp only [Act.put, List.setIfInBounds_toArray, List.set_cons_zero, List.set_cons_succ, i64_w, i32_w]
      rfl
     refine take_ (i := 5) (N := some 16) (v := ?_) (a' := ?_) #[true, true, true, false, true, true, false, false, false] rfl rfl (take_ofW HT_.out HW_.out (by kernel_rfl)) (fun _ _ _ h => h) (Or.inl ⟨by rfl, ?_⟩) hHeld ?_ ?_
     rotate_left
     ·rintro w' ⟨s0, s1, s2, s3⟩
      go_simp
      with_reducible rfl
     rotate_left
     ·simp only [Act.put, List.setIfInBounds_toArray, List.set_cons_zero, List.set_cons_succ, i64_w, i32_w]
      rfl
     refine join_ (σ := Value × Value) 2 #[true, true, true, true, true, true, true, false, false] (fun s_ => [(14, s_.1), (17, s_.2)]) (fun s_ w' => (w'.cell? ⟨gb468, 0, none⟩ = some (.int .i64 a0_0) ∧ w'.cell? ⟨gb468, 1, none⟩ = some (.int .i64 a0_1) ∧ w'.cell? ⟨gb468, 2, none⟩ = some (.slice A0_2 l0_2.length c0_2) ∧ w'.cell? ⟨gb468, 3, none⟩ = some (.slice A0_3 l0_3.length c0_3)) ∧ (Kd.R Kd.bool 4 w' w.heap.size (fun k_ => some k_ ≠ (s_.2 : Value).ownBlock) s_.1 y469) ∧ (Kd.R Kd.bool 4 w' w.heap.size (fun k_ => some k_ ≠ (s_.1 : Value).ownBlock) s_.2 t472) ∧ (w'.heap[gb468]? = some (.cells #[.int .i64 a0_0, .int .i64 a0_1, .slice A0_2 l0_2.length c0_2, .slice A0_3 l0_3.length c0_3] 63 (0, 0))) ∧ (Below w.heap.size w w')) ?_ ?_
     rotate_left
     ·intro hCont
      refine two_ (i := 3) (j := 6) (Ni := some 14) (Nj := some 17) #[true, true, true, true, true, true, false, false, false] #[true, true, true, false, true, true, true, false, false] rfl rfl rfl rfl (two_of HT_.out (by kernel_rfl)) (by decide) (by decide) (fun K hK => ?_) (fun K hK => ?_)
      ·skip
       refine Kd.R_make_step Kd.bool _ 4 (by rfl) (N := 14) rfl 61 _ _ rfl (l0_3.length : Int) rfl rfl Try.underlying61 (.bool false) 1 info4 rfl (by decide) (by omega) false (ok := fun _ => True) (okp := fun _ => True) rfl (fun _ hk => hk) trivial (ofD) (Nat.le_trans (Nat.mul_le_mul_right _ (ofD : (l0_3.length : Int).toNat ≤ 281474976710656)) (by omega)) (Below.refl _ _) (Nat.le_refl _) ?_
       intro v470 w10 ho11 hb hg_ hnew_
       clear hg_ hnew_
       (first | rw [← Ny469.out] at ho11 | (simp only [Int.reduceToNat] at ho11; rw [← Ny469.out] at ho11))
       have n0_ := Aside0.mk (Kd.R_lower ho11 (below_size (bW)))
       have n1_ := Aside0.mk (blkB BK468.out hb)
       have n2_ := Aside0.mk (below_step (bW) hb)
       clear BK468
       clear HB
       have HO471 := n0_
       have BK468 := n1_
       have HB := n2_
       clear n0_ n1_ n2_
       clear hb ho11
       refine hK.out _ _ ⟨(blk_cell BK468.out 0).trans rfl, (blk_cell BK468.out 1).trans rfl, (blk_cell BK468.out 2).trans rfl, (blk_cell BK468.out 3).trans rfl⟩ (fun hHeld => ?_)
       clear hK K
       refine norm_ (a' := ?_) ?_ ?_
       rotate_left
       ·show Act.put _ (some 14) _ = _
        simp only [Act.put, List.setIfInBounds_toArray, List.set_cons_zero, List.set_cons_succ, i64_w, i32_w]
        rfl
       refine one_ (i := 6) (N := some 17) #[true, true, true, true, true, true, true, false, false] rfl rfl (one_of HT_.out (by kernel_rfl)) (by decide) (fun K hK => ?_)
       refine goes_ Try.func69 (by kernel_rfl) rfl #[.slice A0_2 l0_2.length c0_2] (by rfl) rfl rfl (by (try simp only [List.map_toArray, List.map_cons, List.map_nil]); first | done | rfl | (simp only [List.length_drop, List.length_take]; rfl)) ?_
       with_reducible refine (slices_Clone_bool_bool.calls _ _ l0_2 t472 _ ?side1 ?side2 A4.out).mono ?_
       (case side1 => exact cP (Kd.C_below HR0_2.out HB.out))
       (case side2 => exact HC0_2.out)
       rintro e w12 ⟨v473, rfl, ho0, hb⟩
       refine ⟨_, rfl, ?_⟩
       have n0_ := Aside0.mk (Kd.R_elder' (rP HO471.out) (Kd.R_base ho0) hb)
       have n1_ := Aside0.mk (Kd.R_lower (Kd.R_new' ho0 (Kd.R_lt (rP HO471.out))) (below_size (bW)))
       have n2_ := Aside0.mk (blkB BK468.out hb)
       have n3_ := Aside0.mk (below_step (bW) hb)
       clear HO471
       clear BK468
       clear HB
       have HO471 := n0_
       have HO474 := n1_
       have BK468 := n2_
       have HB := n3_
       clear n0_ n1_ n2_ n3_
       (try clear hb)
       (try clear hb2)
       (try clear hk)
       (try clear hi)
       (try clear ho0)
       refine hK.out _ _ ⟨(blk_cell BK468.out 0).trans rfl, (blk_cell BK468.out 1).trans rfl, (blk_cell BK468.out 2).trans rfl, (blk_cell BK468.out 3).trans rfl⟩ (fun hHeld => ?_)
       clear hK K
       refine norm_ (a' := ?_) ?_ ?_
       rotate_left
       ·show Act.put _ (some 17) _ = _
        simp only [Act.put, List.setIfInBounds_toArray, List.set_cons_zero, List.set_cons_succ, i64_w, i32_w]
        rfl
       exact norm_ (by simp only [putAll, Act.put, List.setIfInBounds_toArray, List.set_cons_zero, List.set_cons_succ]) (hCont (v470, v473) _ ⟨hHeld, (by (with_reducible repeat (first | apply Kd.R_alloc | apply Kd.R_drewN | apply Kd.R_drew)); exact Kd.R_mono HO471.out (fun _ hk => hk.2)), (by (with_reducible repeat (first | apply Kd.R_alloc | apply Kd.R_drewN | apply Kd.R_drew)); exact Kd.R_mono HO474.out (fun _ hk => hk.2)), (bP BK468.out), (bW)⟩)
      ·skip
       refine goes_ Try.func69 (by kernel_rfl) rfl #[.slice A0_2 l0_2.length c0_2] (by rfl) rfl rfl (by (try simp only [List.map_toArray, List.map_cons, List.map_nil]); first | done | rfl | (simp only [List.length_drop, List.length_take]; rfl)) ?_
       with_reducible refine (slices_Clone_bool_bool.calls _ _ l0_2 t472 _ ?side1 ?side2 A4.out).mono ?_
       (case side1 => exact cP (Kd.C_below HR0_2.out HB.out))
       (case side2 => exact HC0_2.out)
       rintro e w10 ⟨v473, rfl, ho0, hb⟩
       refine ⟨_, rfl, ?_⟩
       have n0_ := Aside0.mk (Kd.R_lower ho0 (below_size (bW)))
       have n1_ := Aside0.mk (blkB BK468.out hb)
       have n2_ := Aside0.mk (below_step (bW) hb)
       clear BK468
       clear HB
       have HO474 := n0_
       have BK468 := n1_
       have HB := n2_
       clear n0_ n1_ n2_
       (try clear hb)
       (try clear hb2)
       (try clear hk)
       (try clear hi)
       (try clear ho0)
       refine hK.out _ _ ⟨(blk_cell BK468.out 0).trans rfl, (blk_cell BK468.out 1).trans rfl, (blk_cell BK468.out 2).trans rfl, (blk_cell BK468.out 3).trans rfl⟩ (fun hHeld => ?_)
       clear hK K
       refine norm_ (a' := ?_) ?_ ?_
       rotate_left
       ·show Act.put _ (some 17) _ = _
        simp only [Act.put, List.setIfInBounds_toArray, List.set_cons_zero, List.set_cons_succ, i64_w, i32_w]
        rfl
       refine one_ (i := 3) (N := some 14) #[true, true, true, true, true, true, true, false, false] rfl rfl (one_of HT_.out (by kernel_rfl)) (by decide) (fun K hK => ?_)
       refine Kd.R_make_step Kd.bool _ 4 (by rfl) (N := 14) rfl 61 _ _ rfl (l0_3.length : Int) rfl rfl Try.underlying61 (.bool false) 1 info4 rfl (by decide) (by omega) false (ok := fun _ => True) (okp := fun _ => True) rfl (fun _ hk => hk) trivial (ofD) (Nat.le_trans (Nat.mul_le_mul_right _ (ofD : (l0_3.length : Int).toNat ≤ 281474976710656)) (by omega)) (Below.refl _ _) (Nat.le_refl _) ?_
       intro v470 w11 ho12 hb hg_ hnew_
       clear hg_ hnew_
       (first | rw [← Ny469.out] at ho12 | (simp only [Int.reduceToNat] at ho12; rw [← Ny469.out] at ho12))
       have n0_ := Aside0.mk (Kd.R_elder' (rP HO474.out) (Kd.R_base ho12) hb)
       have n1_ := Aside0.mk (Kd.R_lower (Kd.R_new' ho12 (Kd.R_lt (rP HO474.out))) (below_size (bW)))
       have n2_ := Aside0.mk (blkB BK468.out hb)
       have n3_ := Aside0.mk (below_step (bW) hb)
       clear HO474
       clear BK468
       clear HB
       have HO474 := n0_
       have HO471 := n1_
       have BK468 := n2_
       have HB := n3_
       clear n0_ n1_ n2_ n3_
       clear hb ho12
       refine hK.out _ _ ⟨(blk_cell BK468.out 0).trans rfl, (blk_cell BK468.out 1).trans rfl, (blk_cell BK468.out 2).trans rfl, (blk_cell BK468.out 3).trans rfl⟩ (fun hHeld => ?_)
       clear hK K
       refine norm_ (a' := ?_) ?_ ?_
       rotate_left
       ·show Act.put _ (some 14) _ = _
        simp only [Act.put, List.setIfInBounds_toArray, List.set_cons_zero, List.set_cons_succ, i64_w, i32_w]
        rfl
       exact norm_ (by simp only [putAll, Act.put, List.setIfInBounds_toArray, List.set_cons_zero, List.set_cons_succ]) (hCont (v470, v473) _ ⟨hHeld, (by (with_reducible repeat (first | apply Kd.R_alloc | apply Kd.R_drewN | apply Kd.R_drew)); exact Kd.R_mono HO471.out (fun _ hk => hk.2)), (by (with_reducible repeat (first | apply Kd.R_alloc | apply Kd.R_drewN | apply Kd.R_drew)); exact Kd.R_mono HO474.out (fun _ hk => hk.2)), (bP BK468.out), (bW)⟩)
     rintro ⟨v470, v473⟩ w13 ⟨hS_, h0_, h1_, h2_, h3_⟩
     have n0_ : Aside0 (Kd.R Kd.bool 4 w13 w.heap.size (fun k_ => some k_ ≠ (v473 : Value).ownBlock) v470 y469) := ⟨h0_⟩
     have n1_ : Aside0 (Kd.R Kd.bool 4 w13 w.heap.size (fun k_ => some k_ ≠ (v470 : Value).ownBlock) v473 t472) := ⟨h1_⟩
     have n2_ : Aside0 (w13.heap[gb468]? = some (.cells #[.int .i64 a0_0, .int .i64 a0_1, .slice A0_2 l0_2.length c0_2, .slice A0_3 l0_3.length c0_3] 63 (0, 0))) := ⟨h2_⟩
     have n3_ : Aside0 (Below w.heap.size w w13) := ⟨h3_⟩
     clear BK468
     clear HB
     clear h0_ h1_ h2_ h3_
     have HO471 := n0_
     have HO474 := n1_
     have BK468 := n2_
     have HB := n3_
     clear n0_ n1_ n2_ n3_
     have hHeld : w13.cell? ⟨gb468, 0, none⟩ = some (.int .i64 a0_0) ∧ w13.cell? ⟨gb468, 1, none⟩ = some (.int .i64 a0_1) ∧ w13.cell? ⟨gb468, 2, none⟩ = some (.slice A0_2 l0_2.length c0_2) ∧ w13.cell? ⟨gb468, 3, none⟩ = some (.slice A0_3 l0_3.length c0_3) := hS_
     refine norm_ (a' := ?_) ?_ ?_
     rotate_left
     ·simp only [putAll, Act.put, List.setIfInBounds_toArray, List.set_cons_zero, List.set_cons_succ]
      rfl
     refine pure_ (i := 7) (N := some 3) (v := ?_) (a' := ?_) #[true, true, true, true, true, true, true, true, false] rfl rfl (any_of HT_.out (by kernel_rfl)) (fun _ _ _ h => h) (Or.inl ⟨by rfl, ?_⟩) ?_ ?_
     rotate_left
     ·intro w'
      go_simp
      with_reducible rfl
     rotate_left
     ·simp only [Act.put, List.setIfInBounds_toArray, List.set_cons_zero, List.set_cons_succ, i64_w, i32_w]
      rfl
     refine pure_ (i := 8) (N := some 4) (v := ?_) (a' := ?_) #[true, true, true, true, true, true, true, true, true] rfl rfl (any_of HT_.out (by kernel_rfl)) (fun _ _ _ h => h) (Or.inl ⟨by rfl, ?_⟩) ?_ ?_
     rotate_left
     ·intro w'
      go_simp
      with_reducible rfl
     rotate_left
     ·simp only [Act.put, List.setIfInBounds_toArray, List.set_cons_zero, List.set_cons_succ, i64_w, i32_w]
      rfl
     refine done_ (done_of HT_.out (by kernel_rfl)) ?_
     have hcz14_0 : w13.cell? ⟨gb468, 0, none⟩ = some (.int .i64 a0_0) := (blk_cell BK468.out 0).trans rfl
     have hcz14_1 : w13.cell? ⟨gb468, 1, none⟩ = some (.int .i64 a0_1) := (blk_cell BK468.out 1).trans rfl
     have hcz14_2 : w13.cell? ⟨gb468, 2, none⟩ = some (.slice A0_2 l0_2.length c0_2) := (blk_cell BK468.out 2).trans rfl
     have hcz14_3 : w13.cell? ⟨gb468, 3, none⟩ = some (.slice A0_3 l0_3.length c0_3) := (blk_cell BK468.out 3).trans rfl
     have hfz14_0 := blk_frozen BK468.out 0
     have hfz14_1 := blk_frozen BK468.out 1
     have hfz14_2 := blk_frozen BK468.out 2
     have hfz14_3 := blk_frozen BK468.out 3
     have p7 : 0 ≤ (a0_1 : Int) := ofD
     have q7 : (a0_1 : Int) < ((y469.length : Int) : Int) := ofD
     obtain ⟨go7, co7, eo7, gb7, gl7, cl7, HG7⟩ := Kd.R_form HO471.out (by omega)
     (first | cases eo7 | (injection eo7 with ea_ en_ ec_; (first | subst ea_ | (injection ea_ with ea_; subst ea_)); subst ec_; clear en_))
     have GB7 := Aside0.mk gb7
     have GG7 := Aside0.mk HG7
     clear gb7 gl7 HG7
     obtain ⟨hx7_0, hf7_0⟩ := Kd.R_celln false HO471.out (a0_1 : Int) p7 q7
     replace p7 := eq_true p7
     replace q7 := eq_true q7
     obtain ⟨hy15_, hz15_⟩ := Kd.R_celln false HO471.out (a0_1 : Int) (ofD) (ofD)
     have HP15 := Kd.R_putg HO471.out (a0_1 : Int) true
     try go_wp2_with (first | ((with_reducible refine gate_store (t := 4) (p := 21) rfl ?_); refine storeS (t := 4) (p := 21) (w1 := (w13.setCell ⟨go7, (a0_1 : Int).toNat, none⟩ (.bool true))) ?_; intro w16 hw; have hg : w13.grownBy w16 (some go7) := (by rw [hw]; exact HP15.2); have hp_ : Kd.R Kd.bool 4 w16 w.heap.size (fun k_ => some k_ ≠ (v473 : Value).ownBlock) (.slice (some ⟨go7, 0, none⟩) y469.length co7) y475 := (by rw [hw, Ny475.out]; exact HP15.1); clear HP15; have n0_ := Aside0.mk (blk_grown (g := gb468) (o := .cells #[.int .i64 a0_0, .int .i64 a0_1, .slice A0_2 l0_2.length c0_2, .slice A0_3 l0_3.length c0_3] 63 (0, 0)) (bP BK468.out) hg (Kd.R_ne HO471.out BK468.out (by decide))); have n1_ := Aside0.mk (hp_); have n2_ := Aside0.mk (Kd.R_after (v := (.slice (some ⟨go7, 0, none⟩) y469.length co7)) (v1 := (.slice (some ⟨go7, 0, none⟩) y469.length co7)) (ok := (fun _ => True)) (by (with_reducible repeat (first | apply Kd.R_alloc | apply Kd.R_drewN | apply Kd.R_drew)); exact Kd.R_mono HO474.out (fun _ hk => ⟨trivial, hk⟩)) hg (.inl rfl)); have n3_ := Aside0.mk ((by rw [hw]; exact below_set (HB.out) GB7.out : Below w.heap.size w w16)); clear BK468; clear HO471; clear HO474; clear HB; have BK468 := n0_; have HO471 := n1_; have HO474 := n2_; have HB := n3_; clear n0_ n1_ n2_ n3_; clear hg hw hp_))
     go_loopg [5] k (fun kq v5 w' => ∃ (x3_1 : List Bool) (x4_1 : List Bool) (x5_1 : Bool), v5 = .bool x5_1 ∧ Aside0 (impl_machine_useful.l0 kq x3_1 x4_1 x5_1 a0_0 a0_1 l0_2 l0_3 = some r) ∧ Aside0 (kq ≤ k) ∧ Aside0 (Kd.R Kd.bool 4 w' w.heap.size (fun k_ => some k_ ≠ (v473 : Value).ownBlock) (.slice (some ⟨go7, 0, none⟩) y469.length co7) x3_1) ∧ Aside0 (Kd.R Kd.bool 4 w' w.heap.size (fun k_ => some k_ ≠ ((.slice (some ⟨go7, 0, none⟩) y469.length co7) : Value).ownBlock) v473 x4_1) ∧ Aside0 (w'.heap[gb468]? = some (.cells #[.int .i64 a0_0, .int .i64 a0_1, (.slice A0_2 l0_2.length c0_2), (.slice A0_3 l0_3.length c0_3)] 63 (0, 0))) ∧ Aside0 (Below w.heap.size w w'))
     case atStart => exact ⟨(y475), (t472), (true), (eW), H', ⟨Nat.le_refl _⟩, ⟨(rP HO471.out)⟩, ⟨by (with_reducible repeat (first | apply Kd.R_alloc | apply Kd.R_drewN | apply Kd.R_drew)); exact Kd.R_mono HO474.out (fun _ hk => hk.2)⟩, ⟨(bP BK468.out)⟩, ⟨bW⟩⟩
     case round =>
      clear H'
      try clear c2
      try clear c2b0
      try clear c2b1
      try clear p2
      try clear c3
      try clear c3b0
      try clear c3b1
      try clear c5
      try clear c5b0
      try clear c6
      try clear c6b0
      try clear p7
      try clear q7
      try clear hx7
      try clear hf7
      try clear hcz14_0
      try clear hcz14_1
      try clear hcz14_2
      try clear hcz14_3
      try clear hfz14_0
      try clear hfz14_1
      try clear hfz14_2
      try clear hfz14_3
      try clear hx7_0
      try clear p7
      try clear q7
      obtain ⟨x3_1, x4_1, x5_1, rfl, HA, HK1, HO_3, HO_4, BK468, HB⟩ := hrel
      have hl3_1 := (Kd.R_reads' HO_3.out).1
      rw [hl3_1] at HO_3
      (try simp only [hl3_1])
      (try simp only [hl3_1] at BK468)
      (try simp only [hl3_1] at HO_4)
      cases gk with
      | zero => exact absurd HA.out (by simp [impl_machine_useful.l0])
      | succ k1 =>
       have H := HA.out
       clear HA
       simp only [impl_machine_useful.l0] at H
       by_cases c17 : x5_1 = true
       ·subst c17
        have H1 : (impl_machine_useful.l1 k1 x3_1 x4_1 false l0_3 (l0_3.length : Int) 0 a0_0 a0_1 l0_2 l0_3) = some r := by rw [if_pos rfl] at H; exact H
        clear H
        have H := H1
        clear H1
        have H' := Aside0.mk H
        clear H
        have hcz18_0 : wr.cell? ⟨gb468, 0, none⟩ = some (.int .i64 a0_0) := (blk_cell BK468.out 0).trans rfl
        have hcz18_1 : wr.cell? ⟨gb468, 1, none⟩ = some (.int .i64 a0_1) := (blk_cell BK468.out 1).trans rfl
        have hcz18_2 : wr.cell? ⟨gb468, 2, none⟩ = some (.slice A0_2 l0_2.length c0_2) := (blk_cell BK468.out 2).trans rfl
        have hcz18_3 : wr.cell? ⟨gb468, 3, none⟩ = some (.slice A0_3 l0_3.length c0_3) := (blk_cell BK468.out 3).trans rfl
        have hfz18_0 := blk_frozen BK468.out 0
        have hfz18_1 := blk_frozen BK468.out 1
        have hfz18_2 := blk_frozen BK468.out 2
        have hfz18_3 := blk_frozen BK468.out 3
        go_wp2
        go_loopg [5, 26] k1 (fun kq v5 v26 w' => ∃ (x3_2 : List Bool) (x4_2 : List Bool) (x5_2 : Bool) (x26_2 : Int), v5 = .bool x5_2 ∧ v26 = .int .i64 x26_2 ∧ Aside0 (impl_machine_useful.l1 kq x3_2 x4_2 x5_2 l0_3 (l0_3.length : Int) x26_2 a0_0 a0_1 l0_2 l0_3 = some r) ∧ Aside0 (kq ≤ k1) ∧ Aside0 (Kd.R Kd.bool 4 w' w.heap.size (fun k_ => some k_ ≠ (v473 : Value).ownBlock) (.slice (some ⟨go7, 0, none⟩) x3_1.length co7) x3_2) ∧ Aside0 (Kd.R Kd.bool 4 w' w.heap.size (fun k_ => some k_ ≠ ((.slice (some ⟨go7, 0, none⟩) x3_1.length co7) : Value).ownBlock) v473 x4_2) ∧ Aside0 (w'.heap[gb468]? = some (.cells #[.int .i64 a0_0, .int .i64 a0_1, (.slice A0_2 l0_2.length c0_2), (.slice A0_3 l0_3.length c0_3)] 63 (0, 0))) ∧ Aside0 (Below w.heap.size w w'))
        case atStart => exact ⟨(x3_1), (x4_1), (false), (0), (eW), (eW), H', ⟨Nat.le_refl _⟩, ⟨by (try simp only [hl3_1]); exact rP HO_3.out⟩, ⟨by (try simp only [hl3_1]); exact rP HO_4.out⟩, ⟨by (try simp only [hl3_1]); exact bP BK468.out⟩, ⟨bW⟩⟩
        case round =>
         clear H'
         try clear c1
         try clear c2
         try clear c2b0
         try clear c2b1
         try clear p2
         try clear c3
         try clear c3b0
         try clear c3b1
         try clear c5
         try clear c5b0
         try clear c6
         try clear c6b0
         try clear p7
         try clear q7
         try clear hx7
         try clear hf7
         try clear c17
         try clear hcz14_0
         try clear hcz14_1
         try clear hcz14_2
         try clear hcz14_3
         try clear hcz18_0
         try clear hcz18_1
         try clear hcz18_2
         try clear hcz18_3
         try clear hfz14_0
         try clear hfz14_1
         try clear hfz14_2
         try clear hfz14_3
         try clear hfz18_0
         try clear hfz18_1
         try clear hfz18_2
         try clear hfz18_3
         try clear hx7_0
         try clear p2
         try clear p7
         try clear q7
         obtain ⟨x3_2, x4_2, x5_2, x26_2, rfl, rfl, HA, HK2, HO_3, HO_4, BK468, HB⟩ := hrel
         have hl3_2 := (Kd.R_reads' HO_3.out).1
         rw [hl3_2] at HO_3
         (try simp only [hl3_2])
         (try simp only [hl3_2] at BK468)
         (try simp only [hl3_2] at HO_4)
         cases gk with
         | zero => exact absurd HA.out (by simp [impl_machine_useful.l1])
         | succ k2 =>
          have H := HA.out
          clear HA
          simp only [impl_machine_useful.l1] at H
          by_cases c19 : x26_2 < (l0_3.length : Int)
          ·rw [if_pos c19] at H
           have c19b0 : decide (x26_2 < (l0_3.length : Int)) = true := decide_eq_true c19
           (try (have c19g0 := c19b0; simp only [hl3_1, hl3_2] at c19g0))
           clear c19
           by_cases c20 : 0 ≤ x26_2
           ·rw [if_pos c20] at H
            have c20b0 : decide (0 ≤ x26_2) = true := decide_eq_true c20
            clear c20
            by_cases c21 : x26_2 < (l0_3.length : Int)
            ·rw [if_pos c21] at H
             have c21b0 : decide (x26_2 < (l0_3.length : Int)) = true := decide_eq_true c21
             (try (have c21g0 := c21b0; simp only [hl3_1, hl3_2] at c21g0))
             clear c21
             have H' := Aside0.mk H
             clear H
             have p476 : 0 ≤ (x26_2 : Int) := ofD
             have q476 : x26_2 < (l0_3.length : Int) := ofD
             obtain ⟨ad476, A476_0, c476_0, e476, hx476_0, hl476_0, hi476_0⟩ := at_L1 HR0_3.out x26_2 p476 q476
             cases e476
             replace hx476_0 := (HB.out.cell (World.block_lt_of_cell? w _ hx476_0)).trans hx476_0
             have HR476_0 := Aside0.mk hi476_0
             have HC476_0 := Aside0.mk hl476_0
             clear hi476_0 hl476_0
             replace p476 := eq_true p476
             replace q476 := eq_true q476
             go_wp2
             go_loopg [5, 33] k2 (fun kq v5 v33 w' => ∃ (x3_3 : List Bool) (x4_3 : List Bool) (x5_3 : Bool) (x33_3 : Int), v5 = .bool x5_3 ∧ v33 = .int .i64 x33_3 ∧ Aside0 (impl_machine_useful.l2 kq x3_3 x4_3 x5_3 x26_2 l0_3 (l0_3.length : Int) x26_2 (rd_L1 l0_3 x26_2) ((rd_L1 l0_3 x26_2).length : Int) x33_3 a0_0 a0_1 l0_2 l0_3 = some r) ∧ Aside0 (kq ≤ k2) ∧ Aside0 (Kd.R Kd.bool 4 w' w.heap.size (fun k_ => some k_ ≠ (v473 : Value).ownBlock) (.slice (some ⟨go7, 0, none⟩) x3_2.length co7) x3_3) ∧ Aside0 (Kd.R Kd.bool 4 w' w.heap.size (fun k_ => some k_ ≠ ((.slice (some ⟨go7, 0, none⟩) x3_2.length co7) : Value).ownBlock) v473 x4_3) ∧ Aside0 (w'.heap[gb468]? = some (.cells #[.int .i64 a0_0, .int .i64 a0_1, (.slice A0_2 l0_2.length c0_2), (.slice (some ad476) l0_3.length c0_3)] 63 (0, 0))) ∧ Aside0 (Below w.heap.size w w'))
             case atStart => exact ⟨(x3_2), (x4_2), (x5_2), (0), (eW), (eW), H', ⟨Nat.le_refl _⟩, ⟨by (try simp only [hl3_1]); (try simp only [hl3_2]); exact rP HO_3.out⟩, ⟨by (try simp only [hl3_1]); (try simp only [hl3_2]); exact rP HO_4.out⟩, ⟨by (try simp only [hl3_1]); (try simp only [hl3_2]); exact bP BK468.out⟩, ⟨bW⟩⟩
             case round =>
              clear H'
              try clear c1
              try clear c2
              try clear c2b0
              try clear c2b1
              try clear p2
              try clear c3
              try clear c3b0
              try clear c3b1
              try clear c4
              try clear p4
              try clear q4
              try clear hx4
              try clear c5
              try clear c5b0
              try clear c6
              try clear c6b0
              try clear p7
              try clear q7
              try clear hx7
              try clear hf7
              try clear c17
              try clear c19
              try clear c19b0
              try clear c20
              try clear c20b0
              try clear c21
              try clear c21b0
              try clear hcz14_0
              try clear hcz14_1
              try clear hcz14_2
              try clear hcz14_3
              try clear hcz18_0
              try clear hcz18_1
              try clear hcz18_2
              try clear hcz18_3
              try clear hfz14_0
              try clear hfz14_1
              try clear hfz14_2
              try clear hfz14_3
              try clear hfz18_0
              try clear hfz18_1
              try clear hfz18_2
              try clear hfz18_3
              try clear hx476_0
              try clear hx7_0
              try clear p2
              try clear p476
              try clear p7
              try clear q476
              try clear q7
              obtain ⟨x3_3, x4_3, x5_3, x33_3, rfl, rfl, HA, HK3, HO_3, HO_4, BK468, HB⟩ := hrel
              have hl3_3 := (Kd.R_reads' HO_3.out).1
              rw [hl3_3] at HO_3
              (try simp only [hl3_3])
              (try simp only [hl3_3] at BK468)
              (try simp only [hl3_3] at HO_4)
              cases gk with
              | zero => exact absurd HA.out (by simp [impl_machine_useful.l2])
              | succ k3 =>
               have H := HA.out
               clear HA
               simp only [impl_machine_useful.l2] at H
               by_cases c22 : x33_3 < ((rd_L1 l0_3 x26_2).length : Int)
               ·rw [if_pos c22] at H
                have c22b0 : decide (x33_3 < ((rd_L1 l0_3 x26_2).length : Int)) = true := decide_eq_true c22
                (try (have c22g0 := c22b0; simp only [hl3_1, hl3_2, hl3_3] at c22g0))
                clear c22
                by_cases c23 : 0 ≤ x33_3
                ·rw [if_pos c23] at H
                 have c23b0 : decide (0 ≤ x33_3) = true := decide_eq_true c23
                 clear c23
                 by_cases c24 : x33_3 < ((rd_L1 l0_3 x26_2).length : Int)
                 ·rw [if_pos c24] at H
                  have c24b0 : decide (x33_3 < ((rd_L1 l0_3 x26_2).length : Int)) = true := decide_eq_true c24
                  (try (have c24g0 := c24b0; simp only [hl3_1, hl3_2, hl3_3] at c24g0))
                  clear c24
                  by_cases c25 : (rd (rd_L1 l0_3 x26_2) x33_3) < 0
                  ·rw [if_pos c25] at H
                   have c25b0 : decide ((rd (rd_L1 l0_3 x26_2) x33_3) < 0) = true := decide_eq_true c25
                   clear c25
                   have H' := Aside0.mk H
                   clear H
                   have p477 : 0 ≤ (x33_3 : Int) := ofD
                   have q477 : x33_3 < ((rd_L1 l0_3 x26_2).length : Int) := ofD
                   obtain ⟨ad477, e477, hx477_0⟩ := Kd.at_int HR476_0.out x33_3 p477 q477
                   cases e477
                   replace hx477_0 := (HB.out.cell (World.block_lt_of_cell? w _ hx477_0)).trans hx477_0
                   replace p477 := eq_true p477
                   replace q477 := eq_true q477
                   go_wp2
                   (try simp only [← hl3_3])
                   go_roundg k3
                   case measure => have := HK1.out; have := HK2.out; have := HK3.out; omega
                   case rel => exact ⟨(x3_3), (x4_3), (x5_3), (wrap64 (x33_3 + 1)), (eW), (eW), H', ⟨by have := HK1.out; have := HK2.out; have := HK3.out; omega⟩, ⟨by (try simp only [hl3_1]); (try simp only [hl3_2]); (try simp only [hl3_3]); exact rP HO_3.out⟩, ⟨by (try simp only [hl3_1]); (try simp only [hl3_2]); (try simp only [hl3_3]); exact rP HO_4.out⟩, ⟨by (try simp only [hl3_1]); (try simp only [hl3_2]); (try simp only [hl3_3]); exact bP BK468.out⟩, ⟨bW⟩⟩
                  ·rw [if_neg c25] at H
                   have c25b0 : decide ((rd (rd_L1 l0_3 x26_2) x33_3) < 0) = false := decide_eq_false c25
                   clear c25
                   have HC26 := Aside0.mk H
                   clear H
                   have p477 : 0 ≤ (x33_3 : Int) := ofD
                   have q477 : x33_3 < ((rd_L1 l0_3 x26_2).length : Int) := ofD
                   obtain ⟨ad477, e477, hx477_0⟩ := Kd.at_int HR476_0.out x33_3 p477 q477
                   cases e477
                   replace hx477_0 := (HB.out.cell (World.block_lt_of_cell? w _ hx477_0)).trans hx477_0
                   replace p477 := eq_true p477
                   replace q477 := eq_true q477
                   go_upto_region 13 with (fail)
                   go_cut [49] (fun v49 wc => ∃ (kq : Nat) (x49_25 : Bool), v49 = .bool x49_25 ∧ Aside0 (impl_machine_useful.j3 kq x3_3 x4_3 x5_3 x26_2 (rd (rd_L1 l0_3 x26_2) x33_3) l0_3 (l0_3.length : Int) x26_2 (rd_L1 l0_3 x26_2) ((rd_L1 l0_3 x26_2).length : Int) x33_3 x49_25 a0_0 a0_1 l0_2 l0_3 = some r) ∧ Aside0 (kq ≤ k3) ∧ Aside0 (Kd.R Kd.bool 4 wc w.heap.size (fun k_ => some k_ ≠ (v473 : Value).ownBlock) (.slice (some ⟨go7, 0, none⟩) x3_3.length co7) x3_3) ∧ Aside0 (Kd.R Kd.bool 4 wc w.heap.size (fun k_ => some k_ ≠ ((.slice (some ⟨go7, 0, none⟩) x3_3.length co7) : Value).ownBlock) v473 x4_3) ∧ Aside0 (wc.heap[gb468]? = some (.cells #[.int .i64 a0_0, .int .i64 a0_1, (.slice A0_2 l0_2.length c0_2), (.slice (some ad476) l0_3.length c0_3)] 63 (0, 0))) ∧ Aside0 (Below w.heap.size w wc))
                   case first =>
                    have H := HC26.out
                    clear HC26
                    by_cases c27 : 0 ≤ x26_2
                    ·rw [if_pos c27] at H
                     have c27b0 : decide (0 ≤ x26_2) = true := decide_eq_true c27
                     clear c27
                     (first | rw [c27b0] | (simp only [i64_w, i32_w]; rw [c27b0]) | skip)
                     by_cases c28 : x26_2 < (x3_3.length : Int)
                     ·rw [if_pos c28] at H
                      have c28b0 : decide (x26_2 < (x3_3.length : Int)) = true := decide_eq_true c28
                      (try (have c28g0 := c28b0; simp only [hl3_1, hl3_2, hl3_3] at c28g0))
                      clear c28
                      obtain ⟨bq29, hbq29⟩ : ∃ b_ : Bool, b_ = (rdOf false x3_3 x26_2) := ⟨_, rfl⟩
                      replace H : (if bq29 = true then (if 0 ≤ (rd (rd_L1 l0_3 x26_2) x33_3) then (if (rd (rd_L1 l0_3 x26_2) x33_3) < (x3_3.length : Int) then (impl_machine_useful.j3 k3 x3_3 x4_3 x5_3 x26_2 (rd (rd_L1 l0_3 x26_2) x33_3) l0_3 (l0_3.length : Int) x26_2 (rd_L1 l0_3 x26_2) ((rd_L1 l0_3 x26_2).length : Int) x33_3 (!(rdOf false x3_3 (rd (rd_L1 l0_3 x26_2) x33_3))) a0_0 a0_1 l0_2 l0_3) else (none)) else (none)) else (impl_machine_useful.j3 k3 x3_3 x4_3 x5_3 x26_2 (rd (rd_L1 l0_3 x26_2) x33_3) l0_3 (l0_3.length : Int) x26_2 (rd_L1 l0_3 x26_2) ((rd_L1 l0_3 x26_2).length : Int) x33_3 false a0_0 a0_1 l0_2 l0_3)) = some r := by rw [← hbq29] at H; exact H
                      have Nbq29 := Aside0.mk hbq29
                      clear hbq29
                      by_cases c30 : bq29 = true
                      ·subst c30
                       have H1 : (if 0 ≤ (rd (rd_L1 l0_3 x26_2) x33_3) then (if (rd (rd_L1 l0_3 x26_2) x33_3) < (x3_3.length : Int) then (impl_machine_useful.j3 k3 x3_3 x4_3 x5_3 x26_2 (rd (rd_L1 l0_3 x26_2) x33_3) l0_3 (l0_3.length : Int) x26_2 (rd_L1 l0_3 x26_2) ((rd_L1 l0_3 x26_2).length : Int) x33_3 (!(rdOf false x3_3 (rd (rd_L1 l0_3 x26_2) x33_3))) a0_0 a0_1 l0_2 l0_3) else (none)) else (none)) = some r := by rw [if_pos rfl] at H; exact H
                       clear H
                       have H := H1
                       clear H1
                       by_cases c31 : 0 ≤ (rd (rd_L1 l0_3 x26_2) x33_3)
                       ·rw [if_pos c31] at H
                        have c31b0 : decide (0 ≤ (rd (rd_L1 l0_3 x26_2) x33_3)) = true := decide_eq_true c31
                        clear c31
                        by_cases c32 : (rd (rd_L1 l0_3 x26_2) x33_3) < (x3_3.length : Int)
                        ·rw [if_pos c32] at H
                         have c32b0 : decide ((rd (rd_L1 l0_3 x26_2) x33_3) < (x3_3.length : Int)) = true := decide_eq_true c32
                         (try (have c32g0 := c32b0; simp only [hl3_1, hl3_2, hl3_3] at c32g0))
                         clear c32
                         have H' := Aside0.mk H
                         clear H
                         have p478 : 0 ≤ (x26_2 : Int) := ofD
                         have q478 : x26_2 < (x3_3.length : Int) := ofD
                         obtain ⟨ad478, e478, hx478_0⟩ := Kd.at_bool (Kd.R_reads' HO_3.out).2.2 x26_2 p478 q478
                         (try rw [← Nbq29.out] at hx478_0)
                         obtain rfl : (⟨go7, 0, none⟩ : Addr) = ad478 := (by injection e478)
                         (first | simp only [add_plain] at hx478_0 | simp only [add_at] at hx478_0 | simp only [Addr.add, Nat.zero_add] at hx478_0 | skip)
                         replace p478 := eq_true p478
                         replace q478 := eq_true q478
                         have p479 : 0 ≤ ((rd (rd_L1 l0_3 x26_2) x33_3) : Int) := ofD
                         have q479 : (rd (rd_L1 l0_3 x26_2) x33_3) < (x3_3.length : Int) := ofD
                         obtain ⟨ad479, e479, hx479_0⟩ := Kd.at_bool (Kd.R_reads' HO_3.out).2.2 (rd (rd_L1 l0_3 x26_2) x33_3) p479 q479
                         (try rw [← Nbq29.out] at hx479_0)
                         obtain rfl : (⟨go7, 0, none⟩ : Addr) = ad479 := (by injection e479)
                         (first | simp only [add_plain] at hx479_0 | simp only [add_at] at hx479_0 | simp only [Addr.add, Nat.zero_add] at hx479_0 | skip)
                         replace p479 := eq_true p479
                         replace q479 := eq_true q479
                         go_wp2
                         go_meet
                         case rel => exact ⟨_, (!(rdOf false x3_3 (rd (rd_L1 l0_3 x26_2) x33_3))), (eW), H', ⟨by have := HK1.out; have := HK2.out; have := HK3.out; first | omega | exact Nat.le_refl _⟩, ⟨by (try simp only [hl3_1]); (try simp only [hl3_2]); (try simp only [hl3_3]); exact rP HO_3.out⟩, ⟨by (try simp only [hl3_1]); (try simp only [hl3_2]); (try simp only [hl3_3]); exact rP HO_4.out⟩, ⟨by (try simp only [hl3_1]); (try simp only [hl3_2]); (try simp only [hl3_3]); exact bP BK468.out⟩, ⟨bW⟩⟩
                        ·rw [if_neg c32] at H
                         exact absurd H (by simp)
                       ·rw [if_neg c31] at H
                        exact absurd H (by simp)
                      ·replace c30 := Bool.eq_false_iff.mpr c30
                       subst c30
                       have H1 : (impl_machine_useful.j3 k3 x3_3 x4_3 x5_3 x26_2 (rd (rd_L1 l0_3 x26_2) x33_3) l0_3 (l0_3.length : Int) x26_2 (rd_L1 l0_3 x26_2) ((rd_L1 l0_3 x26_2).length : Int) x33_3 false a0_0 a0_1 l0_2 l0_3) = some r := by rw [if_neg (show ¬ (false = true) by decide)] at H; exact H
                       clear H
                       have H := H1
                       clear H1
                       have H' := Aside0.mk H
                       clear H
                       have p478 : 0 ≤ (x26_2 : Int) := ofD
                       have q478 : x26_2 < (x3_3.length : Int) := ofD
                       obtain ⟨ad478, e478, hx478_0⟩ := Kd.at_bool (Kd.R_reads' HO_3.out).2.2 x26_2 p478 q478
                       (try rw [← Nbq29.out] at hx478_0)
                       obtain rfl : (⟨go7, 0, none⟩ : Addr) = ad478 := (by injection e478)
                       (first | simp only [add_plain] at hx478_0 | simp only [add_at] at hx478_0 | simp only [Addr.add, Nat.zero_add] at hx478_0 | skip)
                       replace p478 := eq_true p478
                       replace q478 := eq_true q478
                       go_wp2
                       go_meet
                       case rel => exact ⟨_, (false), (eW), H', ⟨by have := HK1.out; have := HK2.out; have := HK3.out; first | omega | exact Nat.le_refl _⟩, ⟨by (try simp only [hl3_1]); (try simp only [hl3_2]); (try simp only [hl3_3]); exact rP HO_3.out⟩, ⟨by (try simp only [hl3_1]); (try simp only [hl3_2]); (try simp only [hl3_3]); exact rP HO_4.out⟩, ⟨by (try simp only [hl3_1]); (try simp only [hl3_2]); (try simp only [hl3_3]); exact bP BK468.out⟩, ⟨bW⟩⟩
                     ·rw [if_neg c28] at H
                      exact absurd H (by simp)
                    ·rw [if_neg c27] at H
                     exact absurd H (by simp)
                   case rest =>
                    clear HC26
                    try clear c1
                    try clear c2
                    try clear c2b0
                    try clear c2b1
                    try clear p2
                    try clear q2
                    try clear c3
                    try clear c3b0
                    try clear c3b1
                    try clear c4
                    try clear p4
                    try clear q4
                    try clear hx4
                    try clear c5
                    try clear c5b0
                    try clear c6
                    try clear c6b0
                    try clear p6
                    try clear p7
                    try clear q7
                    try clear hx7
                    try clear hf7
                    try clear c17
                    try clear c19
                    try clear c19b0
                    try clear c20
                    try clear c20b0
                    try clear c21
                    try clear c21b0
                    try clear c22
                    try clear c22b0
                    try clear c23
                    try clear c23b0
                    try clear c24
                    try clear c24b0
                    try clear c25
                    try clear c25b0
                    try clear c27
                    try clear c27b0
                    try clear c28
                    try clear c28b0
                    try clear q29
                    try clear c30
                    try clear c31
                    try clear c31b0
                    try clear c32
                    try clear c32b0
                    try clear hcz14_0
                    try clear hcz14_1
                    try clear hcz14_2
                    try clear hcz14_3
                    try clear hcz18_0
                    try clear hcz18_1
                    try clear hcz18_2
                    try clear hcz18_3
                    try clear hfz14_0
                    try clear hfz14_1
                    try clear hfz14_2
                    try clear hfz14_3
                    try clear hfz18_0
                    try clear hfz18_1
                    try clear hfz18_2
                    try clear hfz18_3
                    try clear hx476_0
                    try clear hx477_0
                    try clear hx478_0
                    try clear hx479_0
                    try clear hx7_0
                    try clear p2
                    try clear p4
                    try clear p476
                    try clear p477
                    try clear p478
                    try clear p479
                    try clear p7
                    try clear q4
                    try clear q476
                    try clear q477
                    try clear q478
                    try clear q479
                    try clear q7
                    obtain ⟨kq, x49_25, rfl, HA, HJ25, HO_3, HO_4, BK468, HB⟩ := hcut
                    cases kq with
                    | zero => exact absurd HA.out (by simp [impl_machine_useful.j3])
                    | succ kj25 =>
                     have H := HA.out
                     clear HA
                     simp only [impl_machine_useful.j3] at H
                     by_cases c33 : x49_25 = true
                     ·subst c33
                      have H1 : (if 0 ≤ (rd (rd_L1 l0_3 x26_2) x33_3) then (if (rd (rd_L1 l0_3 x26_2) x33_3) < (x3_3.length : Int) then ((some (x3_3.set ((rd (rd_L1 l0_3 x26_2) x33_3) : Int).toNat true : List Bool)).bind fun y480 => (if (rd (rd_L1 l0_3 x26_2) x33_3) < (x4_3.length : Int) then (if rdOf false x4_3 (rd (rd_L1 l0_3 x26_2) x33_3) = true then (if 0 ≤ x26_2 then (if x26_2 < (x4_3.length : Int) then (if rdOf false x4_3 x26_2 = true then (impl_machine_useful.l2 kj25 y480 x4_3 true x26_2 l0_3 (l0_3.length : Int) x26_2 (rd_L1 l0_3 x26_2) ((rd_L1 l0_3 x26_2).length : Int) (wrap64 (x33_3 + 1)) a0_0 a0_1 l0_2 l0_3) else (impl_machine_useful.l2 kj25 y480 (x4_3.set (x26_2 : Int).toNat true) true x26_2 l0_3 (l0_3.length : Int) x26_2 (rd_L1 l0_3 x26_2) ((rd_L1 l0_3 x26_2).length : Int) (wrap64 (x33_3 + 1)) a0_0 a0_1 l0_2 l0_3)) else (none)) else (none)) else (impl_machine_useful.l2 kj25 y480 x4_3 true x26_2 l0_3 (l0_3.length : Int) x26_2 (rd_L1 l0_3 x26_2) ((rd_L1 l0_3 x26_2).length : Int) (wrap64 (x33_3 + 1)) a0_0 a0_1 l0_2 l0_3)) else (none))) else (none)) else (none)) = some r := by rw [if_pos rfl] at H; exact H
                      clear H
                      have H := H1
                      clear H1
                      by_cases c34 : 0 ≤ (rd (rd_L1 l0_3 x26_2) x33_3)
                      ·rw [if_pos c34] at H
                       have c34b0 : decide (0 ≤ (rd (rd_L1 l0_3 x26_2) x33_3)) = true := decide_eq_true c34
                       clear c34
                       by_cases c35 : (rd (rd_L1 l0_3 x26_2) x33_3) < (x3_3.length : Int)
                       ·rw [if_pos c35] at H
                        have c35b0 : decide ((rd (rd_L1 l0_3 x26_2) x33_3) < (x3_3.length : Int)) = true := decide_eq_true c35
                        (try (have c35g0 := c35b0; simp only [hl3_1, hl3_2, hl3_3] at c35g0))
                        clear c35
                        obtain ⟨y480, hy480⟩ : ∃ y_ : List Bool, y_ = (x3_3.set ((rd (rd_L1 l0_3 x26_2) x33_3) : Int).toNat true) := ⟨_, rfl⟩
                        replace H : (if (rd (rd_L1 l0_3 x26_2) x33_3) < (x4_3.length : Int) then (if rdOf false x4_3 (rd (rd_L1 l0_3 x26_2) x33_3) = true then (if 0 ≤ x26_2 then (if x26_2 < (x4_3.length : Int) then (if rdOf false x4_3 x26_2 = true then (impl_machine_useful.l2 kj25 y480 x4_3 true x26_2 l0_3 (l0_3.length : Int) x26_2 (rd_L1 l0_3 x26_2) ((rd_L1 l0_3 x26_2).length : Int) (wrap64 (x33_3 + 1)) a0_0 a0_1 l0_2 l0_3) else (impl_machine_useful.l2 kj25 y480 (x4_3.set (x26_2 : Int).toNat true) true x26_2 l0_3 (l0_3.length : Int) x26_2 (rd_L1 l0_3 x26_2) ((rd_L1 l0_3 x26_2).length : Int) (wrap64 (x33_3 + 1)) a0_0 a0_1 l0_2 l0_3)) else (none)) else (none)) else (impl_machine_useful.l2 kj25 y480 x4_3 true x26_2 l0_3 (l0_3.length : Int) x26_2 (rd_L1 l0_3 x26_2) ((rd_L1 l0_3 x26_2).length : Int) (wrap64 (x33_3 + 1)) a0_0 a0_1 l0_2 l0_3)) else (none)) = some r := by first | (rw [hy480]; with_reducible exact H) | (have H2_ := (Option.bind_some _ _).symm.trans H; rw [hy480]; with_reducible exact H2_) | (have H2_ := (Option.bind_some _ _).symm.trans H; with_reducible exact H2_) | with_reducible exact H | (rw [hy480]; exact H) | exact H
                        have Ny480 := Aside0.mk hy480
                        clear hy480
                        by_cases c37 : (rd (rd_L1 l0_3 x26_2) x33_3) < (x4_3.length : Int)
                        ·rw [if_pos c37] at H
                         have c37b0 : decide ((rd (rd_L1 l0_3 x26_2) x33_3) < (x4_3.length : Int)) = true := decide_eq_true c37
                         (try (have c37g0 := c37b0; simp only [hl3_1, hl3_2, hl3_3] at c37g0))
                         clear c37
                         obtain ⟨bq38, hbq38⟩ : ∃ b_ : Bool, b_ = (rdOf false x4_3 (rd (rd_L1 l0_3 x26_2) x33_3)) := ⟨_, rfl⟩
                         replace H : (if bq38 = true then (if 0 ≤ x26_2 then (if x26_2 < (x4_3.length : Int) then (if rdOf false x4_3 x26_2 = true then (impl_machine_useful.l2 kj25 y480 x4_3 true x26_2 l0_3 (l0_3.length : Int) x26_2 (rd_L1 l0_3 x26_2) ((rd_L1 l0_3 x26_2).length : Int) (wrap64 (x33_3 + 1)) a0_0 a0_1 l0_2 l0_3) else (impl_machine_useful.l2 kj25 y480 (x4_3.set (x26_2 : Int).toNat true) true x26_2 l0_3 (l0_3.length : Int) x26_2 (rd_L1 l0_3 x26_2) ((rd_L1 l0_3 x26_2).length : Int) (wrap64 (x33_3 + 1)) a0_0 a0_1 l0_2 l0_3)) else (none)) else (none)) else (impl_machine_useful.l2 kj25 y480 x4_3 true x26_2 l0_3 (l0_3.length : Int) x26_2 (rd_L1 l0_3 x26_2) ((rd_L1 l0_3 x26_2).length : Int) (wrap64 (x33_3 + 1)) a0_0 a0_1 l0_2 l0_3)) = some r := by rw [← hbq38] at H; exact H
                         have Nbq38 := Aside0.mk hbq38
                         clear hbq38
                         by_cases c39 : bq38 = true
                         ·subst c39
                          have H1 : (if 0 ≤ x26_2 then (if x26_2 < (x4_3.length : Int) then (if rdOf false x4_3 x26_2 = true then (impl_machine_useful.l2 kj25 y480 x4_3 true x26_2 l0_3 (l0_3.length : Int) x26_2 (rd_L1 l0_3 x26_2) ((rd_L1 l0_3 x26_2).length : Int) (wrap64 (x33_3 + 1)) a0_0 a0_1 l0_2 l0_3) else (impl_machine_useful.l2 kj25 y480 (x4_3.set (x26_2 : Int).toNat true) true x26_2 l0_3 (l0_3.length : Int) x26_2 (rd_L1 l0_3 x26_2) ((rd_L1 l0_3 x26_2).length : Int) (wrap64 (x33_3 + 1)) a0_0 a0_1 l0_2 l0_3)) else (none)) else (none)) = some r := by rw [if_pos rfl] at H; exact H
                          clear H
                          have H := H1
                          clear H1
                          by_cases c40 : 0 ≤ x26_2
                          ·rw [if_pos c40] at H
                           have c40b0 : decide (0 ≤ x26_2) = true := decide_eq_true c40
                           clear c40
                           by_cases c41 : x26_2 < (x4_3.length : Int)
                           ·rw [if_pos c41] at H
                            have c41b0 : decide (x26_2 < (x4_3.length : Int)) = true := decide_eq_true c41
                            (try (have c41g0 := c41b0; simp only [hl3_1, hl3_2, hl3_3] at c41g0))
                            clear c41
                            obtain ⟨bq42, hbq42⟩ : ∃ b_ : Bool, b_ = (rdOf false x4_3 x26_2) := ⟨_, rfl⟩
                            replace H : (if bq42 = true then (impl_machine_useful.l2 kj25 y480 x4_3 true x26_2 l0_3 (l0_3.length : Int) x26_2 (rd_L1 l0_3 x26_2) ((rd_L1 l0_3 x26_2).length : Int) (wrap64 (x33_3 + 1)) a0_0 a0_1 l0_2 l0_3) else (impl_machine_useful.l2 kj25 y480 (x4_3.set (x26_2 : Int).toNat true) true x26_2 l0_3 (l0_3.length : Int) x26_2 (rd_L1 l0_3 x26_2) ((rd_L1 l0_3 x26_2).length : Int) (wrap64 (x33_3 + 1)) a0_0 a0_1 l0_2 l0_3)) = some r := by rw [← hbq42] at H; exact H
                            have Nbq42 := Aside0.mk hbq42
                            clear hbq42
                            by_cases c43 : bq42 = true
                            ·subst c43
                             have H1 : (impl_machine_useful.l2 kj25 y480 x4_3 true x26_2 l0_3 (l0_3.length : Int) x26_2 (rd_L1 l0_3 x26_2) ((rd_L1 l0_3 x26_2).length : Int) (wrap64 (x33_3 + 1)) a0_0 a0_1 l0_2 l0_3) = some r := by rw [if_pos rfl] at H; exact H
                             clear H
                             have H := H1
                             clear H1
                             have H' := Aside0.mk H
                             clear H
                             have p36 : 0 ≤ ((rd (rd_L1 l0_3 x26_2) x33_3) : Int) := ofD
                             have q36 : ((rd (rd_L1 l0_3 x26_2) x33_3) : Int) < ((x3_3.length : Int) : Int) := ofD
                             obtain ⟨hx36_0, hf36_0⟩ := Kd.R_celln false HO_3.out ((rd (rd_L1 l0_3 x26_2) x33_3) : Int) p36 q36
                             replace p36 := eq_true p36
                             replace q36 := eq_true q36
                             have HP44 := Kd.R_putg HO_3.out ((rd (rd_L1 l0_3 x26_2) x33_3) : Int) true
                             go_wp2_with (first | ((with_reducible refine gate_store (t := 4) (p := 52) rfl ?_); refine store_event (t := 4) (p := 52) (v := ?vo_w45) (w1 := (wc.setCell ⟨go7, ((rd (rd_L1 l0_3 x26_2) x33_3) : Int).toNat, none⟩ (.bool true))) ?hg ?ho ?hn ?hr ?_; (case ho => rfl); (case hg => rfl); (case hn => rfl); (case hr => first | (go_simp; done) | (go_simp; rfl)); intro w45 hw; have hg : wc.grownBy w45 (some go7) := (by rw [hw]; exact HP44.2); have hp_ : Kd.R Kd.bool 4 w45 w.heap.size (fun k_ => some k_ ≠ (v473 : Value).ownBlock) (.slice (some ⟨go7, 0, none⟩) x3_3.length co7) y480 := (by rw [hw, Ny480.out]; exact HP44.1); clear HP44; have n0_ := Aside0.mk (hp_); have n1_ := Aside0.mk (Kd.R_after (v := (.slice (some ⟨go7, 0, none⟩) x3_3.length co7)) (v1 := (.slice (some ⟨go7, 0, none⟩) x3_3.length co7)) (ok := (fun _ => True)) (by (with_reducible repeat (first | apply Kd.R_alloc | apply Kd.R_drewN | apply Kd.R_drew)); exact Kd.R_mono HO_4.out (fun _ hk => ⟨trivial, hk⟩)) hg (.inl rfl)); have n2_ := Aside0.mk (blk_grown (g := gb468) (o := .cells #[.int .i64 a0_0, .int .i64 a0_1, .slice A0_2 l0_2.length c0_2, .slice (some ad476) l0_3.length c0_3] 63 (0, 0)) (bP BK468.out) hg (Kd.R_ne HO_3.out BK468.out (by decide))); have n3_ := Aside0.mk ((by rw [hw]; exact below_set (HB.out) GB7.out : Below w.heap.size w w45)); clear HO_3; clear HO_4; clear BK468; clear HB; have HO_3 := n0_; have HO_4 := n1_; have BK468 := n2_; have HB := n3_; clear n0_ n1_ n2_ n3_; clear hg hw hp_; obtain ⟨Ao46, co46, eo46⟩ := Kd.R_slice HO_4.out; subst eo46; have p481 : 0 ≤ ((rd (rd_L1 l0_3 x26_2) x33_3) : Int) := ofD; have q481 : (rd (rd_L1 l0_3 x26_2) x33_3) < (x4_3.length : Int) := ofD; obtain ⟨ad481, e481, hx481_0⟩ := Kd.at_bool (Kd.R_reads' HO_4.out).2.2 (rd (rd_L1 l0_3 x26_2) x33_3) p481 q481; (try rw [← Nbq38.out] at hx481_0); (try rw [← Nbq42.out] at hx481_0); cases e481; replace p481 := eq_true p481; replace q481 := eq_true q481; have p482 : 0 ≤ (x26_2 : Int) := ofD; have q482 : x26_2 < (x4_3.length : Int) := ofD; obtain ⟨ad482, e482, hx482_0⟩ := Kd.at_bool (Kd.R_reads' HO_4.out).2.2 x26_2 p482 q482; (try rw [← Nbq38.out] at hx482_0); (try rw [← Nbq42.out] at hx482_0); obtain rfl : ad481 = ad482 := (by injection e482); replace p482 := eq_true p482; replace q482 := eq_true q482))
                             (try simp only [← hl3_3])
                             go_roundg kj25
                             case measure => have := HK1.out; have := HK2.out; have := HK3.out; have := HJ25.out; omega
                             case rel => exact ⟨(y480), (x4_3), (true), (wrap64 (x33_3 + 1)), (eW), (eW), H', ⟨by have := HK1.out; have := HK2.out; have := HK3.out; have := HJ25.out; omega⟩, ⟨by (try simp only [hl3_1]); (try simp only [hl3_2]); (try simp only [hl3_3]); exact rP HO_3.out⟩, ⟨by (try simp only [hl3_1]); (try simp only [hl3_2]); (try simp only [hl3_3]); (with_reducible repeat (first | apply Kd.R_alloc | apply Kd.R_drewN | apply Kd.R_drew)); exact Kd.R_mono HO_4.out (fun _ hk => hk.2)⟩, ⟨by (try simp only [hl3_1]); (try simp only [hl3_2]); (try simp only [hl3_3]); exact bP BK468.out⟩, ⟨bW⟩⟩
                            ·replace c43 := Bool.eq_false_iff.mpr c43
                             subst c43
                             have H1 : (impl_machine_useful.l2 kj25 y480 (x4_3.set (x26_2 : Int).toNat true) true x26_2 l0_3 (l0_3.length : Int) x26_2 (rd_L1 l0_3 x26_2) ((rd_L1 l0_3 x26_2).length : Int) (wrap64 (x33_3 + 1)) a0_0 a0_1 l0_2 l0_3) = some r := by rw [if_neg (show ¬ (false = true) by decide)] at H; exact H
                             clear H
                             have H := H1
                             clear H1
                             obtain ⟨y483, hy483⟩ : ∃ y_ : List Bool, y_ = (x4_3.set (x26_2 : Int).toNat true) := ⟨_, rfl⟩
                             replace H : (impl_machine_useful.l2 kj25 y480 y483 true x26_2 l0_3 (l0_3.length : Int) x26_2 (rd_L1 l0_3 x26_2) ((rd_L1 l0_3 x26_2).length : Int) (wrap64 (x33_3 + 1)) a0_0 a0_1 l0_2 l0_3) = some r := by first | (rw [hy483]; with_reducible exact H) | (have H2_ := (Option.bind_some _ _).symm.trans H; rw [hy483]; with_reducible exact H2_) | (have H2_ := (Option.bind_some _ _).symm.trans H; with_reducible exact H2_) | with_reducible exact H | (rw [hy483]; exact H) | exact H
                             have Ny483 := Aside0.mk hy483
                             clear hy483
                             have H' := Aside0.mk H
                             clear H
                             have p36 : 0 ≤ ((rd (rd_L1 l0_3 x26_2) x33_3) : Int) := ofD
                             have q36 : ((rd (rd_L1 l0_3 x26_2) x33_3) : Int) < ((x3_3.length : Int) : Int) := ofD
                             obtain ⟨hx36_0, hf36_0⟩ := Kd.R_celln false HO_3.out ((rd (rd_L1 l0_3 x26_2) x33_3) : Int) p36 q36
                             replace p36 := eq_true p36
                             replace q36 := eq_true q36
                             have HP48 := Kd.R_putg HO_3.out ((rd (rd_L1 l0_3 x26_2) x33_3) : Int) true
                             go_wp2_with (first | ((with_reducible refine gate_store (t := 4) (p := 52) rfl ?_); refine store_event (t := 4) (p := 52) (v := ?vo_w49) (w1 := (wc.setCell ⟨go7, ((rd (rd_L1 l0_3 x26_2) x33_3) : Int).toNat, none⟩ (.bool true))) ?hg ?ho ?hn ?hr ?_; (case ho => rfl); (case hg => rfl); (case hn => rfl); (case hr => first | (go_simp; done) | (go_simp; rfl)); intro w49 hw; have hg : wc.grownBy w49 (some go7) := (by rw [hw]; exact HP48.2); have hp_ : Kd.R Kd.bool 4 w49 w.heap.size (fun k_ => some k_ ≠ (v473 : Value).ownBlock) (.slice (some ⟨go7, 0, none⟩) x3_3.length co7) y480 := (by rw [hw, Ny480.out]; exact HP48.1); clear HP48; have n0_ := Aside0.mk (hp_); have n1_ := Aside0.mk (Kd.R_after (v := (.slice (some ⟨go7, 0, none⟩) x3_3.length co7)) (v1 := (.slice (some ⟨go7, 0, none⟩) x3_3.length co7)) (ok := (fun _ => True)) (by (with_reducible repeat (first | apply Kd.R_alloc | apply Kd.R_drewN | apply Kd.R_drew)); exact Kd.R_mono HO_4.out (fun _ hk => ⟨trivial, hk⟩)) hg (.inl rfl)); have n2_ := Aside0.mk (blk_grown (g := gb468) (o := .cells #[.int .i64 a0_0, .int .i64 a0_1, .slice A0_2 l0_2.length c0_2, .slice (some ad476) l0_3.length c0_3] 63 (0, 0)) (bP BK468.out) hg (Kd.R_ne HO_3.out BK468.out (by decide))); have n3_ := Aside0.mk ((by rw [hw]; exact below_set (HB.out) GB7.out : Below w.heap.size w w49)); clear HO_3; clear HO_4; clear BK468; clear HB; have HO_3 := n0_; have HO_4 := n1_; have BK468 := n2_; have HB := n3_; clear n0_ n1_ n2_ n3_; clear hg hw hp_; obtain ⟨Ao50, co50, eo50⟩ := Kd.R_slice HO_4.out; subst eo50; have p481 : 0 ≤ ((rd (rd_L1 l0_3 x26_2) x33_3) : Int) := ofD; have q481 : (rd (rd_L1 l0_3 x26_2) x33_3) < (x4_3.length : Int) := ofD; obtain ⟨ad481, e481, hx481_0⟩ := Kd.at_bool (Kd.R_reads' HO_4.out).2.2 (rd (rd_L1 l0_3 x26_2) x33_3) p481 q481; (try rw [← Nbq38.out] at hx481_0); (try rw [← Nbq42.out] at hx481_0); cases e481; replace p481 := eq_true p481; replace q481 := eq_true q481; have p482 : 0 ≤ (x26_2 : Int) := ofD; have q482 : x26_2 < (x4_3.length : Int) := ofD; obtain ⟨ad482, e482, hx482_0⟩ := Kd.at_bool (Kd.R_reads' HO_4.out).2.2 x26_2 p482 q482; (try rw [← Nbq38.out] at hx482_0); (try rw [← Nbq42.out] at hx482_0); obtain rfl : ad481 = ad482 := (by injection e482); replace p482 := eq_true p482; replace q482 := eq_true q482; have p47 : 0 ≤ (x26_2 : Int) := ofD; have q47 : (x26_2 : Int) < ((x4_3.length : Int) : Int) := ofD; obtain ⟨go47, co47, eo47, gb47, gl47, cl47, HG47⟩ := Kd.R_form HO_4.out (by omega); (first | cases eo47 | (injection eo47 with ea_ en_ ec_; (first | subst ea_ | (injection ea_ with ea_; subst ea_)); subst ec_; clear en_)); have GB47 := Aside0.mk gb47; have GG47 := Aside0.mk HG47; clear gb47 gl47 HG47; (first | simp only [add_plain] at hx481_0 | skip); (first | simp only [add_plain] at hx482_0 | skip); obtain ⟨hx47_0, hf47_0⟩ := Kd.R_celln false HO_4.out (x26_2 : Int) p47 q47; replace p47 := eq_true p47; replace q47 := eq_true q47; have n_ := Aside0.mk (Kd.R_mono (ok' := (fun k_ => some k_ ≠ (.slice (some ⟨go7, 0, none⟩) x3_3.length co7 : Value).ownBlock)) HO_4.out (fun k_ hk => hk.2)); clear HO_4; have HO_4 := n_; clear n_; obtain ⟨hy51_, hz51_⟩ := Kd.R_celln false HO_4.out (x26_2 : Int) (ofD) (ofD); have HP51 := Kd.R_putg HO_4.out (x26_2 : Int) true) | ((with_reducible refine gate_store (t := 4) (p := 66) rfl ?_); refine storeS (t := 4) (p := 66) (w1 := (w49.setCell ⟨go47, (x26_2 : Int).toNat, none⟩ (.bool true))) ?_; intro w52 hw; have hg : w49.grownBy w52 (some go47) := (by rw [hw]; exact HP51.2); have hp_ : Kd.R Kd.bool 4 w52 w.heap.size (fun k_ => some k_ ≠ (.slice (some ⟨go7, 0, none⟩) x3_3.length co7 : Value).ownBlock) (.slice (some ⟨go47, 0, none⟩) x4_3.length co50) y483 := (by rw [hw, Ny483.out]; exact HP51.1); clear HP51; have n0_ := Aside0.mk (Kd.R_after (v := (.slice (some ⟨go47, 0, none⟩) x4_3.length co50)) (v1 := (.slice (some ⟨go47, 0, none⟩) x4_3.length co50)) (ok := (fun _ => True)) (by (with_reducible repeat (first | apply Kd.R_alloc | apply Kd.R_drewN | apply Kd.R_drew)); exact Kd.R_mono HO_3.out (fun _ hk => ⟨trivial, hk⟩)) hg (.inl rfl)); have n1_ := Aside0.mk (hp_); have n2_ := Aside0.mk (blk_grown (g := gb468) (o := .cells #[.int .i64 a0_0, .int .i64 a0_1, .slice A0_2 l0_2.length c0_2, .slice (some ad476) l0_3.length c0_3] 63 (0, 0)) (bP BK468.out) hg (Kd.R_ne HO_4.out BK468.out (by decide))); have n3_ := Aside0.mk ((by rw [hw]; exact below_set (HB.out) GB47.out : Below w.heap.size w w52)); clear HO_3; clear HO_4; clear BK468; clear HB; have HO_3 := n0_; have HO_4 := n1_; have BK468 := n2_; have HB := n3_; clear n0_ n1_ n2_ n3_; clear hg hw hp_))
                             (try simp only [← hl3_3])
                             go_roundg kj25
                             case measure => have := HK1.out; have := HK2.out; have := HK3.out; have := HJ25.out; omega
                             case rel => exact ⟨(y480), (y483), (true), (wrap64 (x33_3 + 1)), (eW), (eW), H', ⟨by have := HK1.out; have := HK2.out; have := HK3.out; have := HJ25.out; omega⟩, ⟨by (try simp only [hl3_1]); (try simp only [hl3_2]); (try simp only [hl3_3]); (with_reducible repeat (first | apply Kd.R_alloc | apply Kd.R_drewN | apply Kd.R_drew)); exact Kd.R_mono HO_3.out (fun _ hk => hk.2)⟩, ⟨by (try simp only [hl3_1]); (try simp only [hl3_2]); (try simp only [hl3_3]); exact rP HO_4.out⟩, ⟨by (try simp only [hl3_1]); (try simp only [hl3_2]); (try simp only [hl3_3]); exact bP BK468.out⟩, ⟨bW⟩⟩
                           ·rw [if_neg c41] at H
                            exact absurd H (by simp)
                          ·rw [if_neg c40] at H
                           exact absurd H (by simp)
                         ·replace c39 := Bool.eq_false_iff.mpr c39
                          subst c39
                          have H1 : (impl_machine_useful.l2 kj25 y480 x4_3 true x26_2 l0_3 (l0_3.length : Int) x26_2 (rd_L1 l0_3 x26_2) ((rd_L1 l0_3 x26_2).length : Int) (wrap64 (x33_3 + 1)) a0_0 a0_1 l0_2 l0_3) = some r := by rw [if_neg (show ¬ (false = true) by decide)] at H; exact H
                          clear H
                          have H := H1
                          clear H1
                          have H' := Aside0.mk H
                          clear H
                          have p36 : 0 ≤ ((rd (rd_L1 l0_3 x26_2) x33_3) : Int) := ofD
                          have q36 : ((rd (rd_L1 l0_3 x26_2) x33_3) : Int) < ((x3_3.length : Int) : Int) := ofD
                          obtain ⟨hx36_0, hf36_0⟩ := Kd.R_celln false HO_3.out ((rd (rd_L1 l0_3 x26_2) x33_3) : Int) p36 q36
                          replace p36 := eq_true p36
                          replace q36 := eq_true q36
                          have HP53 := Kd.R_putg HO_3.out ((rd (rd_L1 l0_3 x26_2) x33_3) : Int) true
                          go_wp2_with (first | ((with_reducible refine gate_store (t := 4) (p := 52) rfl ?_); refine store_event (t := 4) (p := 52) (v := ?vo_w54) (w1 := (wc.setCell ⟨go7, ((rd (rd_L1 l0_3 x26_2) x33_3) : Int).toNat, none⟩ (.bool true))) ?hg ?ho ?hn ?hr ?_; (case ho => rfl); (case hg => rfl); (case hn => rfl); (case hr => first | (go_simp; done) | (go_simp; rfl)); intro w54 hw; have hg : wc.grownBy w54 (some go7) := (by rw [hw]; exact HP53.2); have hp_ : Kd.R Kd.bool 4 w54 w.heap.size (fun k_ => some k_ ≠ (v473 : Value).ownBlock) (.slice (some ⟨go7, 0, none⟩) x3_3.length co7) y480 := (by rw [hw, Ny480.out]; exact HP53.1); clear HP53; have n0_ := Aside0.mk (hp_); have n1_ := Aside0.mk (Kd.R_after (v := (.slice (some ⟨go7, 0, none⟩) x3_3.length co7)) (v1 := (.slice (some ⟨go7, 0, none⟩) x3_3.length co7)) (ok := (fun _ => True)) (by (with_reducible repeat (first | apply Kd.R_alloc | apply Kd.R_drewN | apply Kd.R_drew)); exact Kd.R_mono HO_4.out (fun _ hk => ⟨trivial, hk⟩)) hg (.inl rfl)); have n2_ := Aside0.mk (blk_grown (g := gb468) (o := .cells #[.int .i64 a0_0, .int .i64 a0_1, .slice A0_2 l0_2.length c0_2, .slice (some ad476) l0_3.length c0_3] 63 (0, 0)) (bP BK468.out) hg (Kd.R_ne HO_3.out BK468.out (by decide))); have n3_ := Aside0.mk ((by rw [hw]; exact below_set (HB.out) GB7.out : Below w.heap.size w w54)); clear HO_3; clear HO_4; clear BK468; clear HB; have HO_3 := n0_; have HO_4 := n1_; have BK468 := n2_; have HB := n3_; clear n0_ n1_ n2_ n3_; clear hg hw hp_; obtain ⟨Ao55, co55, eo55⟩ := Kd.R_slice HO_4.out; subst eo55; have p481 : 0 ≤ ((rd (rd_L1 l0_3 x26_2) x33_3) : Int) := ofD; have q481 : (rd (rd_L1 l0_3 x26_2) x33_3) < (x4_3.length : Int) := ofD; obtain ⟨ad481, e481, hx481_0⟩ := Kd.at_bool (Kd.R_reads' HO_4.out).2.2 (rd (rd_L1 l0_3 x26_2) x33_3) p481 q481; (try rw [← Nbq38.out] at hx481_0); cases e481; replace p481 := eq_true p481; replace q481 := eq_true q481))
                          (try simp only [← hl3_3])
                          go_roundg kj25
                          case measure => have := HK1.out; have := HK2.out; have := HK3.out; have := HJ25.out; omega
                          case rel => exact ⟨(y480), (x4_3), (true), (wrap64 (x33_3 + 1)), (eW), (eW), H', ⟨by have := HK1.out; have := HK2.out; have := HK3.out; have := HJ25.out; omega⟩, ⟨by (try simp only [hl3_1]); (try simp only [hl3_2]); (try simp only [hl3_3]); exact rP HO_3.out⟩, ⟨by (try simp only [hl3_1]); (try simp only [hl3_2]); (try simp only [hl3_3]); (with_reducible repeat (first | apply Kd.R_alloc | apply Kd.R_drewN | apply Kd.R_drew)); exact Kd.R_mono HO_4.out (fun _ hk => hk.2)⟩, ⟨by (try simp only [hl3_1]); (try simp only [hl3_2]); (try simp only [hl3_3]); exact bP BK468.out⟩, ⟨bW⟩⟩
                        ·rw [if_neg c37] at H
                         exact absurd H (by simp)
                       ·rw [if_neg c35] at H
                        exact absurd H (by simp)
                      ·rw [if_neg c34] at H
                       exact absurd H (by simp)
                     ·replace c33 := Bool.eq_false_iff.mpr c33
                      subst c33
                      have H1 : (if 0 ≤ (rd (rd_L1 l0_3 x26_2) x33_3) then (if (rd (rd_L1 l0_3 x26_2) x33_3) < (x4_3.length : Int) then (if rdOf false x4_3 (rd (rd_L1 l0_3 x26_2) x33_3) = true then (if 0 ≤ x26_2 then (if x26_2 < (x4_3.length : Int) then (if rdOf false x4_3 x26_2 = true then (impl_machine_useful.l2 kj25 x3_3 x4_3 x5_3 x26_2 l0_3 (l0_3.length : Int) x26_2 (rd_L1 l0_3 x26_2) ((rd_L1 l0_3 x26_2).length : Int) (wrap64 (x33_3 + 1)) a0_0 a0_1 l0_2 l0_3) else (impl_machine_useful.l2 kj25 x3_3 (x4_3.set (x26_2 : Int).toNat true) true x26_2 l0_3 (l0_3.length : Int) x26_2 (rd_L1 l0_3 x26_2) ((rd_L1 l0_3 x26_2).length : Int) (wrap64 (x33_3 + 1)) a0_0 a0_1 l0_2 l0_3)) else (none)) else (none)) else (impl_machine_useful.l2 kj25 x3_3 x4_3 x5_3 x26_2 l0_3 (l0_3.length : Int) x26_2 (rd_L1 l0_3 x26_2) ((rd_L1 l0_3 x26_2).length : Int) (wrap64 (x33_3 + 1)) a0_0 a0_1 l0_2 l0_3)) else (none)) else (none)) = some r := by rw [if_neg (show ¬ (false = true) by decide)] at H; exact H
                      clear H
                      have H := H1
                      clear H1
                      by_cases c56 : 0 ≤ (rd (rd_L1 l0_3 x26_2) x33_3)
                      ·rw [if_pos c56] at H
                       have c56b0 : decide (0 ≤ (rd (rd_L1 l0_3 x26_2) x33_3)) = true := decide_eq_true c56
                       clear c56
                       by_cases c57 : (rd (rd_L1 l0_3 x26_2) x33_3) < (x4_3.length : Int)
                       ·rw [if_pos c57] at H
                        have c57b0 : decide ((rd (rd_L1 l0_3 x26_2) x33_3) < (x4_3.length : Int)) = true := decide_eq_true c57
                        (try (have c57g0 := c57b0; simp only [hl3_1, hl3_2, hl3_3] at c57g0))
                        clear c57
                        obtain ⟨bq58, hbq58⟩ : ∃ b_ : Bool, b_ = (rdOf false x4_3 (rd (rd_L1 l0_3 x26_2) x33_3)) := ⟨_, rfl⟩
                        replace H : (if bq58 = true then (if 0 ≤ x26_2 then (if x26_2 < (x4_3.length : Int) then (if rdOf false x4_3 x26_2 = true then (impl_machine_useful.l2 kj25 x3_3 x4_3 x5_3 x26_2 l0_3 (l0_3.length : Int) x26_2 (rd_L1 l0_3 x26_2) ((rd_L1 l0_3 x26_2).length : Int) (wrap64 (x33_3 + 1)) a0_0 a0_1 l0_2 l0_3) else (impl_machine_useful.l2 kj25 x3_3 (x4_3.set (x26_2 : Int).toNat true) true x26_2 l0_3 (l0_3.length : Int) x26_2 (rd_L1 l0_3 x26_2) ((rd_L1 l0_3 x26_2).length : Int) (wrap64 (x33_3 + 1)) a0_0 a0_1 l0_2 l0_3)) else (none)) else (none)) else (impl_machine_useful.l2 kj25 x3_3 x4_3 x5_3 x26_2 l0_3 (l0_3.length : Int) x26_2 (rd_L1 l0_3 x26_2) ((rd_L1 l0_3 x26_2).length : Int) (wrap64 (x33_3 + 1)) a0_0 a0_1 l0_2 l0_3)) = some r := by rw [← hbq58] at H; exact H
                        have Nbq58 := Aside0.mk hbq58
                        clear hbq58
                        by_cases c59 : bq58 = true
                        ·subst c59
                         have H1 : (if 0 ≤ x26_2 then (if x26_2 < (x4_3.length : Int) then (if rdOf false x4_3 x26_2 = true then (impl_machine_useful.l2 kj25 x3_3 x4_3 x5_3 x26_2 l0_3 (l0_3.length : Int) x26_2 (rd_L1 l0_3 x26_2) ((rd_L1 l0_3 x26_2).length : Int) (wrap64 (x33_3 + 1)) a0_0 a0_1 l0_2 l0_3) else (impl_machine_useful.l2 kj25 x3_3 (x4_3.set (x26_2 : Int).toNat true) true x26_2 l0_3 (l0_3.length : Int) x26_2 (rd_L1 l0_3 x26_2) ((rd_L1 l0_3 x26_2).length : Int) (wrap64 (x33_3 + 1)) a0_0 a0_1 l0_2 l0_3)) else (none)) else (none)) = some r := by rw [if_pos rfl] at H; exact H
                         clear H
                         have H := H1
                         clear H1
                         by_cases c60 : 0 ≤ x26_2
                         ·rw [if_pos c60] at H
                          have c60b0 : decide (0 ≤ x26_2) = true := decide_eq_true c60
                          clear c60
                          by_cases c61 : x26_2 < (x4_3.length : Int)
                          ·rw [if_pos c61] at H
                           have c61b0 : decide (x26_2 < (x4_3.length : Int)) = true := decide_eq_true c61
                           (try (have c61g0 := c61b0; simp only [hl3_1, hl3_2, hl3_3] at c61g0))
                           clear c61
                           obtain ⟨bq62, hbq62⟩ : ∃ b_ : Bool, b_ = (rdOf false x4_3 x26_2) := ⟨_, rfl⟩
                           replace H : (if bq62 = true then (impl_machine_useful.l2 kj25 x3_3 x4_3 x5_3 x26_2 l0_3 (l0_3.length : Int) x26_2 (rd_L1 l0_3 x26_2) ((rd_L1 l0_3 x26_2).length : Int) (wrap64 (x33_3 + 1)) a0_0 a0_1 l0_2 l0_3) else (impl_machine_useful.l2 kj25 x3_3 (x4_3.set (x26_2 : Int).toNat true) true x26_2 l0_3 (l0_3.length : Int) x26_2 (rd_L1 l0_3 x26_2) ((rd_L1 l0_3 x26_2).length : Int) (wrap64 (x33_3 + 1)) a0_0 a0_1 l0_2 l0_3)) = some r := by rw [← hbq62] at H; exact H
                           have Nbq62 := Aside0.mk hbq62
                           clear hbq62
                           by_cases c63 : bq62 = true
                           ·subst c63
                            have H1 : (impl_machine_useful.l2 kj25 x3_3 x4_3 x5_3 x26_2 l0_3 (l0_3.length : Int) x26_2 (rd_L1 l0_3 x26_2) ((rd_L1 l0_3 x26_2).length : Int) (wrap64 (x33_3 + 1)) a0_0 a0_1 l0_2 l0_3) = some r := by rw [if_pos rfl] at H; exact H
                            clear H
                            have H := H1
                            clear H1
                            have H' := Aside0.mk H
                            clear H
                            obtain ⟨Ao64, co64, eo64⟩ := Kd.R_slice HO_4.out
                            subst eo64
                            have p484 : 0 ≤ ((rd (rd_L1 l0_3 x26_2) x33_3) : Int) := ofD
                            have q484 : (rd (rd_L1 l0_3 x26_2) x33_3) < (x4_3.length : Int) := ofD
                            obtain ⟨ad484, e484, hx484_0⟩ := Kd.at_bool (Kd.R_reads' HO_4.out).2.2 (rd (rd_L1 l0_3 x26_2) x33_3) p484 q484
                            (try rw [← Nbq58.out] at hx484_0)
                            (try rw [← Nbq62.out] at hx484_0)
                            cases e484
                            replace p484 := eq_true p484
                            replace q484 := eq_true q484
                            have p485 : 0 ≤ (x26_2 : Int) := ofD
                            have q485 : x26_2 < (x4_3.length : Int) := ofD
                            obtain ⟨ad485, e485, hx485_0⟩ := Kd.at_bool (Kd.R_reads' HO_4.out).2.2 x26_2 p485 q485
                            (try rw [← Nbq58.out] at hx485_0)
                            (try rw [← Nbq62.out] at hx485_0)
                            obtain rfl : ad484 = ad485 := (by injection e485)
                            replace p485 := eq_true p485
                            replace q485 := eq_true q485
                            go_wp2
                            (try simp only [← hl3_3])
                            go_roundg kj25
                            case measure => have := HK1.out; have := HK2.out; have := HK3.out; have := HJ25.out; omega
                            case rel => exact ⟨(x3_3), (x4_3), (x5_3), (wrap64 (x33_3 + 1)), (eW), (eW), H', ⟨by have := HK1.out; have := HK2.out; have := HK3.out; have := HJ25.out; omega⟩, ⟨by (try simp only [hl3_1]); (try simp only [hl3_2]); (try simp only [hl3_3]); exact rP HO_3.out⟩, ⟨by (try simp only [hl3_1]); (try simp only [hl3_2]); (try simp only [hl3_3]); exact rP HO_4.out⟩, ⟨by (try simp only [hl3_1]); (try simp only [hl3_2]); (try simp only [hl3_3]); exact bP BK468.out⟩, ⟨bW⟩⟩
                           ·replace c63 := Bool.eq_false_iff.mpr c63
                            subst c63
                            have H1 : (impl_machine_useful.l2 kj25 x3_3 (x4_3.set (x26_2 : Int).toNat true) true x26_2 l0_3 (l0_3.length : Int) x26_2 (rd_L1 l0_3 x26_2) ((rd_L1 l0_3 x26_2).length : Int) (wrap64 (x33_3 + 1)) a0_0 a0_1 l0_2 l0_3) = some r := by rw [if_neg (show ¬ (false = true) by decide)] at H; exact H
                            clear H
                            have H := H1
                            clear H1
                            obtain ⟨y486, hy486⟩ : ∃ y_ : List Bool, y_ = (x4_3.set (x26_2 : Int).toNat true) := ⟨_, rfl⟩
                            replace H : (impl_machine_useful.l2 kj25 x3_3 y486 true x26_2 l0_3 (l0_3.length : Int) x26_2 (rd_L1 l0_3 x26_2) ((rd_L1 l0_3 x26_2).length : Int) (wrap64 (x33_3 + 1)) a0_0 a0_1 l0_2 l0_3) = some r := by first | (rw [hy486]; with_reducible exact H) | (have H2_ := (Option.bind_some _ _).symm.trans H; rw [hy486]; with_reducible exact H2_) | (have H2_ := (Option.bind_some _ _).symm.trans H; with_reducible exact H2_) | with_reducible exact H | (rw [hy486]; exact H) | exact H
                            have Ny486 := Aside0.mk hy486
                            clear hy486
                            have H' := Aside0.mk H
                            clear H
                            obtain ⟨Ao66, co66, eo66⟩ := Kd.R_slice HO_4.out
                            subst eo66
                            have p484 : 0 ≤ ((rd (rd_L1 l0_3 x26_2) x33_3) : Int) := ofD
                            have q484 : (rd (rd_L1 l0_3 x26_2) x33_3) < (x4_3.length : Int) := ofD
                            obtain ⟨ad484, e484, hx484_0⟩ := Kd.at_bool (Kd.R_reads' HO_4.out).2.2 (rd (rd_L1 l0_3 x26_2) x33_3) p484 q484
                            (try rw [← Nbq58.out] at hx484_0)
                            (try rw [← Nbq62.out] at hx484_0)
                            cases e484
                            replace p484 := eq_true p484
                            replace q484 := eq_true q484
                            have p485 : 0 ≤ (x26_2 : Int) := ofD
                            have q485 : x26_2 < (x4_3.length : Int) := ofD
                            obtain ⟨ad485, e485, hx485_0⟩ := Kd.at_bool (Kd.R_reads' HO_4.out).2.2 x26_2 p485 q485
                            (try rw [← Nbq58.out] at hx485_0)
                            (try rw [← Nbq62.out] at hx485_0)
                            obtain rfl : ad484 = ad485 := (by injection e485)
                            replace p485 := eq_true p485
                            replace q485 := eq_true q485
                            have p65 : 0 ≤ (x26_2 : Int) := ofD
                            have q65 : (x26_2 : Int) < ((x4_3.length : Int) : Int) := ofD
                            obtain ⟨go65, co65, eo65, gb65, gl65, cl65, HG65⟩ := Kd.R_form HO_4.out (by omega)
                            (first | cases eo65 | (injection eo65 with ea_ en_ ec_; (first | subst ea_ | (injection ea_ with ea_; subst ea_)); subst ec_; clear en_))
                            have GB65 := Aside0.mk gb65
                            have GG65 := Aside0.mk HG65
                            clear gb65 gl65 HG65
                            (first | simp only [add_plain] at hx484_0 | skip)
                            (first | simp only [add_plain] at hx485_0 | skip)
                            obtain ⟨hx65_0, hf65_0⟩ := Kd.R_celln false HO_4.out (x26_2 : Int) p65 q65
                            replace p65 := eq_true p65
                            replace q65 := eq_true q65
                            have HP67 := Kd.R_putg HO_4.out (x26_2 : Int) true
                            go_wp2_with (first | ((with_reducible refine gate_store (t := 4) (p := 66) rfl ?_); refine storeS (t := 4) (p := 66) (w1 := (wc.setCell ⟨go65, (x26_2 : Int).toNat, none⟩ (.bool true))) ?_; intro w68 hw; have hg : wc.grownBy w68 (some go65) := (by rw [hw]; exact HP67.2); have hp_ : Kd.R Kd.bool 4 w68 w.heap.size (fun k_ => some k_ ≠ (.slice (some ⟨go7, 0, none⟩) x3_3.length co7 : Value).ownBlock) (.slice (some ⟨go65, 0, none⟩) x4_3.length co66) y486 := (by rw [hw, Ny486.out]; exact HP67.1); clear HP67; have n0_ := Aside0.mk (Kd.R_after (v := (.slice (some ⟨go65, 0, none⟩) x4_3.length co66)) (v1 := (.slice (some ⟨go65, 0, none⟩) x4_3.length co66)) (ok := (fun _ => True)) (by (with_reducible repeat (first | apply Kd.R_alloc | apply Kd.R_drewN | apply Kd.R_drew)); exact Kd.R_mono HO_3.out (fun _ hk => ⟨trivial, hk⟩)) hg (.inl rfl)); have n1_ := Aside0.mk (hp_); have n2_ := Aside0.mk (blk_grown (g := gb468) (o := .cells #[.int .i64 a0_0, .int .i64 a0_1, .slice A0_2 l0_2.length c0_2, .slice (some ad476) l0_3.length c0_3] 63 (0, 0)) (bP BK468.out) hg (Kd.R_ne HO_4.out BK468.out (by decide))); have n3_ := Aside0.mk ((by rw [hw]; exact below_set (HB.out) GB65.out : Below w.heap.size w w68)); clear HO_3; clear HO_4; clear BK468; clear HB; have HO_3 := n0_; have HO_4 := n1_; have BK468 := n2_; have HB := n3_; clear n0_ n1_ n2_ n3_; clear hg hw hp_))
                            (try simp only [← hl3_3])
                            go_roundg kj25
                            case measure => have := HK1.out; have := HK2.out; have := HK3.out; have := HJ25.out; omega
                            case rel => exact ⟨(x3_3), (y486), (true), (wrap64 (x33_3 + 1)), (eW), (eW), H', ⟨by have := HK1.out; have := HK2.out; have := HK3.out; have := HJ25.out; omega⟩, ⟨by (try simp only [hl3_1]); (try simp only [hl3_2]); (try simp only [hl3_3]); (with_reducible repeat (first | apply Kd.R_alloc | apply Kd.R_drewN | apply Kd.R_drew)); exact Kd.R_mono HO_3.out (fun _ hk => hk.2)⟩, ⟨by (try simp only [hl3_1]); (try simp only [hl3_2]); (try simp only [hl3_3]); exact rP HO_4.out⟩, ⟨by (try simp only [hl3_1]); (try simp only [hl3_2]); (try simp only [hl3_3]); exact bP BK468.out⟩, ⟨bW⟩⟩
                          ·rw [if_neg c61] at H
                           exact absurd H (by simp)
                         ·rw [if_neg c60] at H
                          exact absurd H (by simp)
                        ·replace c59 := Bool.eq_false_iff.mpr c59
                         subst c59
                         have H1 : (impl_machine_useful.l2 kj25 x3_3 x4_3 x5_3 x26_2 l0_3 (l0_3.length : Int) x26_2 (rd_L1 l0_3 x26_2) ((rd_L1 l0_3 x26_2).length : Int) (wrap64 (x33_3 + 1)) a0_0 a0_1 l0_2 l0_3) = some r := by rw [if_neg (show ¬ (false = true) by decide)] at H; exact H
                         clear H
                         have H := H1
                         clear H1
                         have H' := Aside0.mk H
                         clear H
                         obtain ⟨Ao69, co69, eo69⟩ := Kd.R_slice HO_4.out
                         subst eo69
                         have p484 : 0 ≤ ((rd (rd_L1 l0_3 x26_2) x33_3) : Int) := ofD
                         have q484 : (rd (rd_L1 l0_3 x26_2) x33_3) < (x4_3.length : Int) := ofD
                         obtain ⟨ad484, e484, hx484_0⟩ := Kd.at_bool (Kd.R_reads' HO_4.out).2.2 (rd (rd_L1 l0_3 x26_2) x33_3) p484 q484
                         (try rw [← Nbq58.out] at hx484_0)
                         cases e484
                         replace p484 := eq_true p484
                         replace q484 := eq_true q484
                         go_wp2
                         (try simp only [← hl3_3])
                         go_roundg kj25
                         case measure => have := HK1.out; have := HK2.out; have := HK3.out; have := HJ25.out; omega
                         case rel => exact ⟨(x3_3), (x4_3), (x5_3), (wrap64 (x33_3 + 1)), (eW), (eW), H', ⟨by have := HK1.out; have := HK2.out; have := HK3.out; have := HJ25.out; omega⟩, ⟨by (try simp only [hl3_1]); (try simp only [hl3_2]); (try simp only [hl3_3]); exact rP HO_3.out⟩, ⟨by (try simp only [hl3_1]); (try simp only [hl3_2]); (try simp only [hl3_3]); exact rP HO_4.out⟩, ⟨by (try simp only [hl3_1]); (try simp only [hl3_2]); (try simp only [hl3_3]); exact bP BK468.out⟩, ⟨bW⟩⟩
                       ·rw [if_neg c57] at H
                        exact absurd H (by simp)
                      ·rw [if_neg c56] at H
                       exact absurd H (by simp)
                 ·rw [if_neg c24] at H
                  exact absurd H (by simp)
                ·rw [if_neg c23] at H
                 exact absurd H (by simp)
               ·rw [if_neg c22] at H
                have c22b0 : decide (x33_3 < ((rd_L1 l0_3 x26_2).length : Int)) = false := decide_eq_false c22
                (try (have c22g0 := c22b0; simp only [hl3_1, hl3_2, hl3_3] at c22g0))
                clear c22
                have H' := Aside0.mk H
                clear H
                go_wp2
                (try simp only [← hl3_2, ← hl3_3])
                go_roundg k3
                case measure => have := HK1.out; have := HK2.out; have := HK3.out; omega
                case rel => exact ⟨(x3_3), (x4_3), (x5_3), (wrap64 (x26_2 + 1)), (eW), (eW), H', ⟨by have := HK1.out; have := HK2.out; have := HK3.out; omega⟩, ⟨by (try simp only [hl3_1]); (try simp only [hl3_2]); (try simp only [hl3_3]); exact rP HO_3.out⟩, ⟨by (try simp only [hl3_1]); (try simp only [hl3_2]); (try simp only [hl3_3]); exact rP HO_4.out⟩, ⟨by (try simp only [hl3_1]); (try simp only [hl3_2]); (try simp only [hl3_3]); exact bP BK468.out⟩, ⟨bW⟩⟩
            ·rw [if_neg c21] at H
             exact absurd H (by simp)
           ·rw [if_neg c20] at H
            exact absurd H (by simp)
          ·rw [if_neg c19] at H
           have c19b0 : decide (x26_2 < (l0_3.length : Int)) = false := decide_eq_false c19
           (try (have c19g0 := c19b0; simp only [hl3_1, hl3_2] at c19g0))
           clear c19
           have H' := Aside0.mk H
           clear H
           go_wp2
           (try simp only [← hl3_1, ← hl3_2])
           go_roundg k2
           case measure => have := HK1.out; have := HK2.out; omega
           case rel => exact ⟨(x3_2), (x4_2), (x5_2), (eW), H', ⟨by have := HK1.out; have := HK2.out; omega⟩, ⟨by (try simp only [hl3_1]); (try simp only [hl3_2]); exact rP HO_3.out⟩, ⟨by (try simp only [hl3_1]); (try simp only [hl3_2]); exact rP HO_4.out⟩, ⟨by (try simp only [hl3_1]); (try simp only [hl3_2]); exact bP BK468.out⟩, ⟨bW⟩⟩
       ·replace c17 := Bool.eq_false_iff.mpr c17
        subst c17
        have H1 : (impl_machine_useful.l3 k1 x3_1 x4_1 (x3_1.length : Int) 0) = some r := by rw [if_neg (show ¬ (false = true) by decide)] at H; exact H
        clear H
        have H := H1
        clear H1
        have H' := Aside0.mk H
        clear H
        go_wp2
        go_loopg [71] k1 (fun kq v71 w' => ∃ (x3_2 : List Bool) (x71_2 : Int), v71 = .int .i64 x71_2 ∧ Aside0 (impl_machine_useful.l3 kq x3_2 x4_1 (x3_1.length : Int) x71_2 = some r) ∧ Aside0 (kq ≤ k1) ∧ Aside0 (Kd.R Kd.bool 4 w' w.heap.size (fun k_ => some k_ ≠ (v473 : Value).ownBlock) (.slice (some ⟨go7, 0, none⟩) x3_1.length co7) x3_2) ∧ Aside0 (Kd.R Kd.bool 4 w' w.heap.size (fun k_ => some k_ ≠ ((.slice (some ⟨go7, 0, none⟩) x3_1.length co7) : Value).ownBlock) v473 x4_1) ∧ Aside0 (w'.heap[gb468]? = some (.cells #[.int .i64 a0_0, .int .i64 a0_1, (.slice A0_2 l0_2.length c0_2), (.slice A0_3 l0_3.length c0_3)] 63 (0, 0))) ∧ Aside0 (Below w.heap.size w w'))
        case atStart => exact ⟨(x3_1), (0), (eW), H', ⟨Nat.le_refl _⟩, ⟨by (try simp only [hl3_1]); exact rP HO_3.out⟩, ⟨by (try simp only [hl3_1]); exact rP HO_4.out⟩, ⟨by (try simp only [hl3_1]); exact bP BK468.out⟩, ⟨bW⟩⟩
        case round =>
         clear H'
         try clear c1
         try clear c2
         try clear c2b0
         try clear c2b1
         try clear p2
         try clear q2
         try clear c3
         try clear c3b0
         try clear c3b1
         try clear p3
         try clear q3
         try clear hx3
         try clear hf3
         try clear c4
         try clear p4
         try clear q4
         try clear hx4
         try clear hf4
         try clear c5
         try clear c5b0
         try clear q5
         try clear c6
         try clear c6b0
         try clear p6
         try clear q6
         try clear hx6
         try clear hf6
         try clear p7
         try clear q7
         try clear hx7
         try clear hf7
         try clear c17
         try clear c19
         try clear c19b0
         try clear c20
         try clear c20b0
         try clear c21
         try clear c21b0
         try clear c22
         try clear c22b0
         try clear c23
         try clear c23b0
         try clear c24
         try clear c24b0
         try clear c25
         try clear c25b0
         try clear c27
         try clear c27b0
         try clear c28
         try clear c28b0
         try clear q29
         try clear c30
         try clear c31
         try clear c31b0
         try clear c32
         try clear c32b0
         try clear c33
         try clear c34
         try clear c34b0
         try clear c35
         try clear c35b0
         try clear p36
         try clear q36
         try clear hx36
         try clear hf36
         try clear c37
         try clear c37b0
         try clear q38
         try clear c39
         try clear c40
         try clear c40b0
         try clear c41
         try clear c41b0
         try clear q42
         try clear c43
         try clear c47
         try clear p47
         try clear q47
         try clear hx47
         try clear hf47
         try clear p48
         try clear q48
         try clear hx48
         try clear c56
         try clear c56b0
         try clear c57
         try clear c57b0
         try clear q58
         try clear c59
         try clear c60
         try clear c60b0
         try clear c61
         try clear c61b0
         try clear q62
         try clear c63
         try clear p64
         try clear p65
         try clear q65
         try clear hx65
         try clear hf65
         try clear hcz14_0
         try clear hcz14_1
         try clear hcz14_2
         try clear hcz14_3
         try clear hcz18_0
         try clear hcz18_1
         try clear hcz18_2
         try clear hcz18_3
         try clear hfz14_0
         try clear hfz14_1
         try clear hfz14_2
         try clear hfz14_3
         try clear hfz18_0
         try clear hfz18_1
         try clear hfz18_2
         try clear hfz18_3
         try clear hx36_0
         try clear hx476_0
         try clear hx477_0
         try clear hx478_0
         try clear hx479_0
         try clear hx47_0
         try clear hx481_0
         try clear hx482_0
         try clear hx484_0
         try clear hx485_0
         try clear hx65_0
         try clear hx7_0
         try clear p2
         try clear p36
         try clear p4
         try clear p47
         try clear p476
         try clear p477
         try clear p478
         try clear p479
         try clear p481
         try clear p482
         try clear p484
         try clear p485
         try clear p6
         try clear p65
         try clear p7
         try clear q2
         try clear q29
         try clear q36
         try clear q4
         try clear q47
         try clear q476
         try clear q477
         try clear q478
         try clear q479
         try clear q481
         try clear q482
         try clear q484
         try clear q485
         try clear q65
         try clear q7
         obtain ⟨x3_2, x71_2, rfl, HA, HK2, HO_3, HO_4, BK468, HB⟩ := hrel
         have hl3_2 := (Kd.R_reads' HO_3.out).1
         rw [hl3_2] at HO_3
         (try simp only [hl3_2])
         (try simp only [hl3_2] at BK468)
         (try simp only [hl3_2] at HO_4)
         cases gk with
         | zero => exact absurd HA.out (by simp [impl_machine_useful.l3])
         | succ k2 =>
          have H := HA.out
          clear HA
          simp only [impl_machine_useful.l3] at H
          by_cases c70 : x71_2 < (x3_1.length : Int)
          ·rw [if_pos c70] at H
           have c70b0 : decide (x71_2 < (x3_1.length : Int)) = true := decide_eq_true c70
           (try (have c70g0 := c70b0; simp only [hl3_1, hl3_2] at c70g0))
           clear c70
           by_cases c71 : 0 ≤ x71_2
           ·rw [if_pos c71] at H
            have c71b0 : decide (0 ≤ x71_2) = true := decide_eq_true c71
            clear c71
            by_cases c72 : x71_2 < (x3_2.length : Int)
            ·rw [if_pos c72] at H
             have c72b0 : decide (x71_2 < (x3_2.length : Int)) = true := decide_eq_true c72
             (try (have c72g0 := c72b0; simp only [hl3_1, hl3_2] at c72g0))
             clear c72
             obtain ⟨bq73, hbq73⟩ : ∃ b_ : Bool, b_ = (rdOf false x3_2 x71_2) := ⟨_, rfl⟩
             replace H : (if bq73 = true then (if x71_2 < (x4_1.length : Int) then (impl_machine_useful.l3 k2 (x3_2.set (x71_2 : Int).toNat (rdOf false x4_1 x71_2)) x4_1 (x3_1.length : Int) (wrap64 (x71_2 + 1))) else (none)) else (impl_machine_useful.l3 k2 (x3_2.set (x71_2 : Int).toNat false) x4_1 (x3_1.length : Int) (wrap64 (x71_2 + 1)))) = some r := by rw [← hbq73] at H; exact H
             have Nbq73 := Aside0.mk hbq73
             clear hbq73
             by_cases c74 : bq73 = true
             ·subst c74
              have H1 : (if x71_2 < (x4_1.length : Int) then (impl_machine_useful.l3 k2 (x3_2.set (x71_2 : Int).toNat (rdOf false x4_1 x71_2)) x4_1 (x3_1.length : Int) (wrap64 (x71_2 + 1))) else (none)) = some r := by rw [if_pos rfl] at H; exact H
              clear H
              have H := H1
              clear H1
              by_cases c75 : x71_2 < (x4_1.length : Int)
              ·rw [if_pos c75] at H
               have c75b0 : decide (x71_2 < (x4_1.length : Int)) = true := decide_eq_true c75
               (try (have c75g0 := c75b0; simp only [hl3_1, hl3_2] at c75g0))
               clear c75
               obtain ⟨y489, hy489⟩ : ∃ y_ : List Bool, y_ = (x3_2.set (x71_2 : Int).toNat (rdOf false x4_1 x71_2)) := ⟨_, rfl⟩
               replace H : (impl_machine_useful.l3 k2 y489 x4_1 (x3_1.length : Int) (wrap64 (x71_2 + 1))) = some r := by first | (rw [hy489]; with_reducible exact H) | (have H2_ := (Option.bind_some _ _).symm.trans H; rw [hy489]; with_reducible exact H2_) | (have H2_ := (Option.bind_some _ _).symm.trans H; with_reducible exact H2_) | with_reducible exact H | (rw [hy489]; exact H) | exact H
               have Ny489 := Aside0.mk hy489
               clear hy489
               have H' := Aside0.mk H
               clear H
               have p487 : 0 ≤ (x71_2 : Int) := ofD
               have q487 : x71_2 < (x3_2.length : Int) := ofD
               obtain ⟨ad487, e487, hx487_0⟩ := Kd.at_bool (Kd.R_reads' HO_3.out).2.2 x71_2 p487 q487
               (try rw [← Nbq73.out] at hx487_0)
               obtain rfl : (⟨go7, 0, none⟩ : Addr) = ad487 := (by injection e487)
               (first | simp only [add_plain] at hx487_0 | simp only [add_at] at hx487_0 | simp only [Addr.add, Nat.zero_add] at hx487_0 | skip)
               replace p487 := eq_true p487
               replace q487 := eq_true q487
               obtain ⟨Ao77, co77, eo77⟩ := Kd.R_slice HO_4.out
               subst eo77
               have p488 : 0 ≤ (x71_2 : Int) := ofD
               have q488 : x71_2 < (x4_1.length : Int) := ofD
               obtain ⟨ad488, e488, hx488_0⟩ := Kd.at_bool (Kd.R_reads' HO_4.out).2.2 x71_2 p488 q488
               (try rw [← Nbq73.out] at hx488_0)
               cases e488
               replace p488 := eq_true p488
               replace q488 := eq_true q488
               have p76 : 0 ≤ (x71_2 : Int) := ofD
               have q76 : (x71_2 : Int) < ((x3_2.length : Int) : Int) := ofD
               obtain ⟨hx76_0, hf76_0⟩ := Kd.R_celln false HO_3.out (x71_2 : Int) p76 q76
               replace p76 := eq_true p76
               replace q76 := eq_true q76
               have HP78 := Kd.R_putg HO_3.out (x71_2 : Int) (rdOf false x4_1 x71_2)
               go_wp2_with (first | ((with_reducible refine gate_store (t := 4) (p := 86) rfl ?_); refine storeS (t := 4) (p := 86) (w1 := (wr.setCell ⟨go7, (x71_2 : Int).toNat, none⟩ (.bool (rdOf false x4_1 x71_2)))) ?_; intro w79 hw; have hg : wr.grownBy w79 (some go7) := (by rw [hw]; exact HP78.2); have hp_ : Kd.R Kd.bool 4 w79 w.heap.size (fun k_ => some k_ ≠ (.slice (some ad488) x4_1.length co77 : Value).ownBlock) (.slice (some ⟨go7, 0, none⟩) x3_2.length co7) y489 := (by rw [hw, Ny489.out]; exact HP78.1); clear HP78; have n0_ := Aside0.mk (hp_); have n1_ := Aside0.mk (Kd.R_after (v := (.slice (some ⟨go7, 0, none⟩) x3_2.length co7)) (v1 := (.slice (some ⟨go7, 0, none⟩) x3_2.length co7)) (ok := (fun _ => True)) (by (with_reducible repeat (first | apply Kd.R_alloc | apply Kd.R_drewN | apply Kd.R_drew)); exact Kd.R_mono HO_4.out (fun _ hk => ⟨trivial, hk⟩)) hg (.inl rfl)); have n2_ := Aside0.mk (blk_grown (g := gb468) (o := .cells #[.int .i64 a0_0, .int .i64 a0_1, .slice A0_2 l0_2.length c0_2, .slice A0_3 l0_3.length c0_3] 63 (0, 0)) (bP BK468.out) hg (Kd.R_ne HO_3.out BK468.out (by decide))); have n3_ := Aside0.mk ((by rw [hw]; exact below_set (HB.out) GB7.out : Below w.heap.size w w79)); clear HO_3; clear HO_4; clear BK468; clear HB; have HO_3 := n0_; have HO_4 := n1_; have BK468 := n2_; have HB := n3_; clear n0_ n1_ n2_ n3_; clear hg hw hp_))
               (try simp only [← hl3_2])
               go_roundg k2
               case measure => have := HK1.out; have := HK2.out; omega
               case rel => exact ⟨(y489), (wrap64 (x71_2 + 1)), (eW), H', ⟨by have := HK1.out; have := HK2.out; omega⟩, ⟨by (try simp only [hl3_1]); (try simp only [hl3_2]); exact rP HO_3.out⟩, ⟨by (try simp only [hl3_1]); (try simp only [hl3_2]); (with_reducible repeat (first | apply Kd.R_alloc | apply Kd.R_drewN | apply Kd.R_drew)); exact Kd.R_mono HO_4.out (fun _ hk => hk.2)⟩, ⟨by (try simp only [hl3_1]); (try simp only [hl3_2]); exact bP BK468.out⟩, ⟨bW⟩⟩
              ·rw [if_neg c75] at H
               exact absurd H (by simp)
             ·replace c74 := Bool.eq_false_iff.mpr c74
              subst c74
              have H1 : (impl_machine_useful.l3 k2 (x3_2.set (x71_2 : Int).toNat false) x4_1 (x3_1.length : Int) (wrap64 (x71_2 + 1))) = some r := by rw [if_neg (show ¬ (false = true) by decide)] at H; exact H
              clear H
              have H := H1
              clear H1
              obtain ⟨y490, hy490⟩ : ∃ y_ : List Bool, y_ = (x3_2.set (x71_2 : Int).toNat false) := ⟨_, rfl⟩
              replace H : (impl_machine_useful.l3 k2 y490 x4_1 (x3_1.length : Int) (wrap64 (x71_2 + 1))) = some r := by first | (rw [hy490]; with_reducible exact H) | (have H2_ := (Option.bind_some _ _).symm.trans H; rw [hy490]; with_reducible exact H2_) | (have H2_ := (Option.bind_some _ _).symm.trans H; with_reducible exact H2_) | with_reducible exact H | (rw [hy490]; exact H) | exact H
              have Ny490 := Aside0.mk hy490
              clear hy490
              have H' := Aside0.mk H
              clear H
              have p487 : 0 ≤ (x71_2 : Int) := ofD
              have q487 : x71_2 < (x3_2.length : Int) := ofD
              obtain ⟨ad487, e487, hx487_0⟩ := Kd.at_bool (Kd.R_reads' HO_3.out).2.2 x71_2 p487 q487
              (try rw [← Nbq73.out] at hx487_0)
              obtain rfl : (⟨go7, 0, none⟩ : Addr) = ad487 := (by injection e487)
              (first | simp only [add_plain] at hx487_0 | simp only [add_at] at hx487_0 | simp only [Addr.add, Nat.zero_add] at hx487_0 | skip)
              replace p487 := eq_true p487
              replace q487 := eq_true q487
              have p80 : 0 ≤ (x71_2 : Int) := ofD
              have q80 : (x71_2 : Int) < ((x3_2.length : Int) : Int) := ofD
              obtain ⟨hx80_0, hf80_0⟩ := Kd.R_celln false HO_3.out (x71_2 : Int) p80 q80
              replace p80 := eq_true p80
              replace q80 := eq_true q80
              have HP81 := Kd.R_putg HO_3.out (x71_2 : Int) false
              go_wp2_with (first | ((with_reducible refine gate_store (t := 4) (p := 86) rfl ?_); refine storeS (t := 4) (p := 86) (w1 := (wr.setCell ⟨go7, (x71_2 : Int).toNat, none⟩ (.bool false))) ?_; intro w82 hw; have hg : wr.grownBy w82 (some go7) := (by rw [hw]; exact HP81.2); have hp_ : Kd.R Kd.bool 4 w82 w.heap.size (fun k_ => some k_ ≠ (v473 : Value).ownBlock) (.slice (some ⟨go7, 0, none⟩) x3_2.length co7) y490 := (by rw [hw, Ny490.out]; exact HP81.1); clear HP81; have n0_ := Aside0.mk (hp_); have n1_ := Aside0.mk (Kd.R_after (v := (.slice (some ⟨go7, 0, none⟩) x3_2.length co7)) (v1 := (.slice (some ⟨go7, 0, none⟩) x3_2.length co7)) (ok := (fun _ => True)) (by (with_reducible repeat (first | apply Kd.R_alloc | apply Kd.R_drewN | apply Kd.R_drew)); exact Kd.R_mono HO_4.out (fun _ hk => ⟨trivial, hk⟩)) hg (.inl rfl)); have n2_ := Aside0.mk (blk_grown (g := gb468) (o := .cells #[.int .i64 a0_0, .int .i64 a0_1, .slice A0_2 l0_2.length c0_2, .slice A0_3 l0_3.length c0_3] 63 (0, 0)) (bP BK468.out) hg (Kd.R_ne HO_3.out BK468.out (by decide))); have n3_ := Aside0.mk ((by rw [hw]; exact below_set (HB.out) GB7.out : Below w.heap.size w w82)); clear HO_3; clear HO_4; clear BK468; clear HB; have HO_3 := n0_; have HO_4 := n1_; have BK468 := n2_; have HB := n3_; clear n0_ n1_ n2_ n3_; clear hg hw hp_))
              (try simp only [← hl3_2])
              go_roundg k2
              case measure => have := HK1.out; have := HK2.out; omega
              case rel => exact ⟨(y490), (wrap64 (x71_2 + 1)), (eW), H', ⟨by have := HK1.out; have := HK2.out; omega⟩, ⟨by (try simp only [hl3_1]); (try simp only [hl3_2]); exact rP HO_3.out⟩, ⟨by (try simp only [hl3_1]); (try simp only [hl3_2]); (with_reducible repeat (first | apply Kd.R_alloc | apply Kd.R_drewN | apply Kd.R_drew)); exact Kd.R_mono HO_4.out (fun _ hk => hk.2)⟩, ⟨by (try simp only [hl3_1]); (try simp only [hl3_2]); exact bP BK468.out⟩, ⟨bW⟩⟩
            ·rw [if_neg c72] at H
             exact absurd H (by simp)
           ·rw [if_neg c71] at H
            exact absurd H (by simp)
          ·rw [if_neg c70] at H
           have c70b0 : decide (x71_2 < (x3_1.length : Int)) = false := decide_eq_false c70
           (try (have c70g0 := c70b0; simp only [hl3_1, hl3_2] at c70g0))
           clear c70
           obtain rfl := Option.some.inj H
           go_wp2
           go_ret
           exact ⟨_, eW, by (with_reducible repeat (first | apply Kd.R_alloc | apply Kd.R_drewN | apply Kd.R_drew)); exact Kd.R_mono HO_3.out (fun _ hk => trivial), bW⟩
    ·rw [if_neg c6] at H
     exact absurd H (by simp)
   ·rw [if_neg c5] at H
    exact absurd H (by simp)
  ·rw [if_neg c3] at H
   exact absurd H (by simp)
 ·rw [if_neg c2] at H
  exact absurd H (by simp)

end Go.Proofs.Ytcibmpomidhgiaa.P
end M0
