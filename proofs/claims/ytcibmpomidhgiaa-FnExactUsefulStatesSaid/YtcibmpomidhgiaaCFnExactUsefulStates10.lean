import Derived.ArgAppend
import Derived.Below
import Derived.BigQuiet
import Derived.Deep.AppendLies
import Derived.Deep.CutBlock
import Derived.Deep.DeepCutAuto
import Derived.Deep.Draws
import Derived.Deep.LoopGhost
import Derived.Deep.OwnRows
import Derived.Deep.QuietTactic
import Derived.Deep.RegionHeld3
import Derived.KernelRfl
import Derived.Laws.BitsLemmas
import Derived.Laws.BytesArg
import Derived.Laws.IdiomCopy
import Derived.Laws.MakeOwn
import Derived.Laws.OwnMore
import Derived.Laws.Rows
import Derived.Laws.Slices
import Derived.Laws.StructEq
import Derived.Lib.AppendStr
import Derived.Lib.ConvBytes
import Derived.Lib.SliceRun
import Derived.Maps.AppendAt
import Derived.OrdersHeld
import Derived.OwnWalk
import Derived.RowKit
import Derived.RowKit3
import Derived.Shelf.Abstract
import Derived.Tactics
import Derived.Test.YtcibmpomidhgiaaProg
import Derived.WalkKit
import Derived.WideLaws
import Derived.Test.YtcibmpomidhgiaaCFnExactUsefulStates2
import Derived.Test.YtcibmpomidhgiaaCFnExactUsefulStates5
import Derived.Test.YtcibmpomidhgiaaCFnExactUsefulStates7
import Derived.Test.YtcibmpomidhgiaaCFnExactUsefulStates9
section M0
namespace Go.Proofs.Ytcibmpomidhgiaa.P
open Go.RowKit Go.Proofs.Ytcibmpomidhgiaa.Sh Go.Proofs.YtcibmpomidhgiaaW.PrintWords Go.Proofs.YtcibmpomidhgiaaW.PrintLast Go.Proofs.YtcibmpomidhgiaaW.PrintMore
attribute [local go_sem] max2_int min2_int max_two min_two max_three min_three max_four min_four   -- for this text's walks alone
set_option linter.unusedVariables false
set_option linter.unusedSimpArgs false

/-! ### spec_UsefulStates: function 25 -/
mutual
def spec_UsefulStates.l0 : Nat → Int → Bool → Int → Int → Int → List (List Int) → Option (Int × Int)
 | 0, _, _, _, _, _, _ => none
 | k + 1, x4, x5, x445000, x445001, x445002, x445003 => if x5 = true then (spec_UsefulStates.l1 k x4 false 0 x445000 x445001 x445002 x445003) else ((spec_l11Free.f k x445000 x445001 x445002 x445003).bind fun bt453 => ((spec_l11Live.f k bt453.1 bt453.2.1 bt453.2.2).bind fun t460 => (spec_UsefulStates.l3 k x4 t460 0 0 x445000 x445001 x445002 x445003)))
def spec_UsefulStates.l1 : Nat → Int → Bool → Int → Int → Int → Int → List (List Int) → Option (Int × Int)
 | 0, _, _, _, _, _, _, _ => none
 | k + 1, x4, x5, x6, x445000, x445001, x445002, x445003 => (spec_l11States.f x445000 x445001 x445002 x445003).bind fun t447 => (if x6 < t447 then (spec_UsefulStates.l2 k x4 x5 x6 0 x445000 x445001 x445002 x445003) else (spec_UsefulStates.l0 k x4 x5 x445000 x445001 x445002 x445003))
def spec_UsefulStates.l2 : Nat → Int → Bool → Int → Int → Int → Int → Int → List (List Int) → Option (Int × Int)
 | 0, _, _, _, _, _, _, _, _ => none
 | k + 1, x4, x5, x6, x7, x445000, x445001, x445002, x445003 => if x7 < x445000 then ((spec_l01Bit.f x4 x6).bind fun t448 => (spec_UsefulStates.j3 k x4 x5 x6 x7 t448 x445000 x445001 x445002 x445003)) else (spec_UsefulStates.j3 k x4 x5 x6 x7 false x445000 x445001 x445002 x445003)
def spec_UsefulStates.j3 : Nat → Int → Bool → Int → Int → Bool → Int → Int → Int → List (List Int) → Option (Int × Int)
 | 0, _, _, _, _, _, _, _, _, _ => none
 | k + 1, x4, x5, x6, x7, x33, x445000, x445001, x445002, x445003 => if x33 = true then (if 0 ≤ x6 then (if x6 < (x445003.length : Int) then (if 0 ≤ x7 then (if x7 < ((rd_L1 x445003 x6).length : Int) then (if (rd (rd_L1 x445003 x6) x7) ≥ 0 then ((spec_l01Bit.f x4 (rd (rd_L1 x445003 x6) x7)).bind fun t451 => (if t451 = true then (spec_UsefulStates.l2 k x4 x5 x6 (wrap64 (x7 + 1)) x445000 x445001 x445002 x445003) else ((spec_l01One.f (rd (rd_L1 x445003 x6) x7)).bind fun t452 => (spec_UsefulStates.l2 k (Go.bits .or .i64 x4 t452) true x6 (wrap64 (x7 + 1)) x445000 x445001 x445002 x445003)))) else (spec_UsefulStates.l2 k x4 x5 x6 (wrap64 (x7 + 1)) x445000 x445001 x445002 x445003)) else (none)) else (none)) else (none)) else (none)) else (spec_UsefulStates.l1 k x4 x5 (wrap64 (x6 + 1)) x445000 x445001 x445002 x445003)
def spec_UsefulStates.l3 : Nat → Int → List Bool → Int → Int → Int → Int → Int → List (List Int) → Option (Int × Int)
 | 0, _, _, _, _, _, _, _, _ => none
 | k + 1, x4, x9, x10, x11, x445000, x445001, x445002, x445003 => (spec_l11States.f x445000 x445001 x445002 x445003).bind fun t463 => (if x11 < t463 then ((spec_l01Bit.f x4 x11).bind fun t464 => (if t464 = true then ((spec_l11Turn.f x445000 x445001 x445002 x445003 x11).bind fun t465 => (if 0 ≤ t465 then (if t465 < (x9.length : Int) then (if rdOf false x9 t465 = true then ((spec_l01One.f x11).bind fun t467 => (spec_UsefulStates.l3 k x4 x9 (Go.bits .or .i64 x10 t467) (wrap64 (x11 + 1)) x445000 x445001 x445002 x445003)) else (spec_UsefulStates.l3 k x4 x9 x10 (wrap64 (x11 + 1)) x445000 x445001 x445002 x445003)) else (none)) else (none))) else (spec_UsefulStates.l3 k x4 x9 x10 (wrap64 (x11 + 1)) x445000 x445001 x445002 x445003))) else (some (x10, 0)))
end
def spec_UsefulStates.f (k : Nat) (a0_0 : Int) (a0_1 : Int) (a0_2 : Int) (l0_3 : List (List Int)) : Option (Int × Int) := (spec_l11Is.f k a0_0 a0_1 a0_2 l0_3).bind fun t445 => (if t445 = true then ((spec_l01One.f a0_1).bind fun t446 => (spec_UsefulStates.l0 k t446 true a0_0 a0_1 a0_2 l0_3)) else (some (0, 1)))
theorem spec_UsefulStates.mono_l : ∀ k, (∀ y0 y1 y2 y3 y4 y5, LeO (spec_UsefulStates.l0 k y0 y1 y2 y3 y4 y5) (spec_UsefulStates.l0 (k + 1) y0 y1 y2 y3 y4 y5)) ∧ (∀ y0 y1 y2 y3 y4 y5 y6, LeO (spec_UsefulStates.l1 k y0 y1 y2 y3 y4 y5 y6) (spec_UsefulStates.l1 (k + 1) y0 y1 y2 y3 y4 y5 y6)) ∧ (∀ y0 y1 y2 y3 y4 y5 y6 y7, LeO (spec_UsefulStates.l2 k y0 y1 y2 y3 y4 y5 y6 y7) (spec_UsefulStates.l2 (k + 1) y0 y1 y2 y3 y4 y5 y6 y7)) ∧ (∀ y0 y1 y2 y3 y4 y5 y6 y7 y8, LeO (spec_UsefulStates.j3 k y0 y1 y2 y3 y4 y5 y6 y7 y8) (spec_UsefulStates.j3 (k + 1) y0 y1 y2 y3 y4 y5 y6 y7 y8)) ∧ (∀ y0 y1 y2 y3 y4 y5 y6 y7, LeO (spec_UsefulStates.l3 k y0 y1 y2 y3 y4 y5 y6 y7) (spec_UsefulStates.l3 (k + 1) y0 y1 y2 y3 y4 y5 y6 y7))
 | 0 => ⟨fun _ _ _ _ _ _ r h => by simp [spec_UsefulStates.l0] at h, fun _ _ _ _ _ _ _ r h => by simp [spec_UsefulStates.l1] at h, fun _ _ _ _ _ _ _ _ r h => by simp [spec_UsefulStates.l2] at h, fun _ _ _ _ _ _ _ _ _ r h => by simp [spec_UsefulStates.j3] at h, fun _ _ _ _ _ _ _ _ r h => by simp [spec_UsefulStates.l3] at h⟩
 | k + 1 => by
  obtain ⟨ih0, ih1, ih2, ih3, ih4⟩ := spec_UsefulStates.mono_l k
  refine ⟨?_, ?_, ?_, ?_, ?_⟩
  ·intro y0 y1 y2 y3 y4 y5
   unfold spec_UsefulStates.l0
   repeat' first
   | (with_reducible exact ih0 _ _ _ _ _ _)
   | (with_reducible exact ih1 _ _ _ _ _ _ _)
   | (with_reducible exact ih2 _ _ _ _ _ _ _ _)
   | (with_reducible exact ih3 _ _ _ _ _ _ _ _ _)
   | (with_reducible exact ih4 _ _ _ _ _ _ _ _)
   | (with_reducible exact spec_l11Free.mono _ _ _ _ _)
   | (with_reducible exact spec_l11Is.mono _ _ _ _ _)
   | (with_reducible exact spec_l11Live.mono _ _ _ _)
   | (with_reducible exact LeO.refl _)
   | (with_reducible exact LeO.none _)
   | (with_reducible refine LeO.ite ?_ ?_)
   | (with_reducible refine LeO.bind ?_ (fun _ => ?_))
   | exact ih0 _ _ _ _ _ _
   | exact ih1 _ _ _ _ _ _ _
   | exact ih2 _ _ _ _ _ _ _ _
   | exact ih3 _ _ _ _ _ _ _ _ _
   | exact ih4 _ _ _ _ _ _ _ _
   | exact spec_l11Free.mono _ _ _ _ _
   | exact spec_l11Is.mono _ _ _ _ _
   | exact spec_l11Live.mono _ _ _ _
   | exact LeO.none _
   | refine LeO.ite ?_ ?_
   | refine LeO.bind ?_ (fun _ => ?_)
  ·intro y0 y1 y2 y3 y4 y5 y6
   unfold spec_UsefulStates.l1
   repeat' first
   | (with_reducible exact ih0 _ _ _ _ _ _)
   | (with_reducible exact ih1 _ _ _ _ _ _ _)
   | (with_reducible exact ih2 _ _ _ _ _ _ _ _)
   | (with_reducible exact ih3 _ _ _ _ _ _ _ _ _)
   | (with_reducible exact ih4 _ _ _ _ _ _ _ _)
   | (with_reducible exact spec_l11Free.mono _ _ _ _ _)
   | (with_reducible exact spec_l11Is.mono _ _ _ _ _)
   | (with_reducible exact spec_l11Live.mono _ _ _ _)
   | (with_reducible exact LeO.refl _)
   | (with_reducible exact LeO.none _)
   | (with_reducible refine LeO.ite ?_ ?_)
   | (with_reducible refine LeO.bind ?_ (fun _ => ?_))
   | exact ih0 _ _ _ _ _ _
   | exact ih1 _ _ _ _ _ _ _
   | exact ih2 _ _ _ _ _ _ _ _
   | exact ih3 _ _ _ _ _ _ _ _ _
   | exact ih4 _ _ _ _ _ _ _ _
   | exact spec_l11Free.mono _ _ _ _ _
   | exact spec_l11Is.mono _ _ _ _ _
   | exact spec_l11Live.mono _ _ _ _
   | exact LeO.none _
   | refine LeO.ite ?_ ?_
   | refine LeO.bind ?_ (fun _ => ?_)
  ·intro y0 y1 y2 y3 y4 y5 y6 y7
   unfold spec_UsefulStates.l2
   repeat' first
   | (with_reducible exact ih0 _ _ _ _ _ _)
   | (with_reducible exact ih1 _ _ _ _ _ _ _)
   | (with_reducible exact ih2 _ _ _ _ _ _ _ _)
   | (with_reducible exact ih3 _ _ _ _ _ _ _ _ _)
   | (with_reducible exact ih4 _ _ _ _ _ _ _ _)
   | (with_reducible exact spec_l11Free.mono _ _ _ _ _)
   | (with_reducible exact spec_l11Is.mono _ _ _ _ _)
   | (with_reducible exact spec_l11Live.mono _ _ _ _)
   | (with_reducible exact LeO.refl _)
   | (with_reducible exact LeO.none _)
   | (with_reducible refine LeO.ite ?_ ?_)
   | (with_reducible refine LeO.bind ?_ (fun _ => ?_))
   | exact ih0 _ _ _ _ _ _
   | exact ih1 _ _ _ _ _ _ _
   | exact ih2 _ _ _ _ _ _ _ _
   | exact ih3 _ _ _ _ _ _ _ _ _
   | exact ih4 _ _ _ _ _ _ _ _
   | exact spec_l11Free.mono _ _ _ _ _
   | exact spec_l11Is.mono _ _ _ _ _
   | exact spec_l11Live.mono _ _ _ _
   | exact LeO.none _
   | refine LeO.ite ?_ ?_
   | refine LeO.bind ?_ (fun _ => ?_)
  ·intro y0 y1 y2 y3 y4 y5 y6 y7 y8
   unfold spec_UsefulStates.j3
   repeat' first
   | (with_reducible exact ih0 _ _ _ _ _ _)
   | (with_reducible exact ih1 _ _ _ _ _ _ _)
   | (with_reducible exact ih2 _ _ _ _ _ _ _ _)
   | (with_reducible exact ih3 _ _ _ _ _ _ _ _ _)
   | (with_reducible exact ih4 _ _ _ _ _ _ _ _)
   | (with_reducible exact spec_l11Free.mono _ _ _ _ _)
   | (with_reducible exact spec_l11Is.mono _ _ _ _ _)
   | (with_reducible exact spec_l11Live.mono _ _ _ _)
   | (with_reducible exact LeO.refl _)
   | (with_reducible exact LeO.none _)
   | (with_reducible refine LeO.ite ?_ ?_)
   | (with_reducible refine LeO.bind ?_ (fun _ => ?_))
   | exact ih0 _ _ _ _ _ _
   | exact ih1 _ _ _ _ _ _ _
   | exact ih2 _ _ _ _ _ _ _ _
   | exact ih3 _ _ _ _ _ _ _ _ _
   | exact ih4 _ _ _ _ _ _ _ _
   | exact spec_l11Free.mono _ _ _ _ _
   | exact spec_l11Is.mono _ _ _ _ _
   | exact spec_l11Live.mono _ _ _ _
   | exact LeO.none _
   | refine LeO.ite ?_ ?_
   | refine LeO.bind ?_ (fun _ => ?_)
  ·intro y0 y1 y2 y3 y4 y5 y6 y7
   unfold spec_UsefulStates.l3
   repeat' first
   | (with_reducible exact ih0 _ _ _ _ _ _)
   | (with_reducible exact ih1 _ _ _ _ _ _ _)
   | (with_reducible exact ih2 _ _ _ _ _ _ _ _)
   | (with_reducible exact ih3 _ _ _ _ _ _ _ _ _)
   | (with_reducible exact ih4 _ _ _ _ _ _ _ _)
   | (with_reducible exact spec_l11Free.mono _ _ _ _ _)
   | (with_reducible exact spec_l11Is.mono _ _ _ _ _)
   | (with_reducible exact spec_l11Live.mono _ _ _ _)
   | (with_reducible exact LeO.refl _)
   | (with_reducible exact LeO.none _)
   | (with_reducible refine LeO.ite ?_ ?_)
   | (with_reducible refine LeO.bind ?_ (fun _ => ?_))
   | exact ih0 _ _ _ _ _ _
   | exact ih1 _ _ _ _ _ _ _
   | exact ih2 _ _ _ _ _ _ _ _
   | exact ih3 _ _ _ _ _ _ _ _ _
   | exact ih4 _ _ _ _ _ _ _ _
   | exact spec_l11Free.mono _ _ _ _ _
   | exact spec_l11Is.mono _ _ _ _ _
   | exact spec_l11Live.mono _ _ _ _
   | exact LeO.none _
   | refine LeO.ite ?_ ?_
   | refine LeO.bind ?_ (fun _ => ?_)
theorem spec_UsefulStates.mono : ∀ a0 a1 a2 a3 k, LeO (spec_UsefulStates.f k a0 a1 a2 a3) (spec_UsefulStates.f (k + 1) a0 a1 a2 a3) := by
 intro a0 a1 a2 a3 k
 obtain ⟨ih0, ih1, ih2, ih3, ih4⟩ := spec_UsefulStates.mono_l k
 unfold spec_UsefulStates.f
 repeat' first
   | (with_reducible exact ih0 _ _ _ _ _ _)
   | (with_reducible exact ih1 _ _ _ _ _ _ _)
   | (with_reducible exact ih2 _ _ _ _ _ _ _ _)
   | (with_reducible exact ih3 _ _ _ _ _ _ _ _ _)
   | (with_reducible exact ih4 _ _ _ _ _ _ _ _)
   | (with_reducible exact spec_l11Free.mono _ _ _ _ _)
   | (with_reducible exact spec_l11Is.mono _ _ _ _ _)
   | (with_reducible exact spec_l11Live.mono _ _ _ _)
   | (with_reducible exact LeO.refl _)
   | (with_reducible exact LeO.none _)
   | (with_reducible refine LeO.ite ?_ ?_)
   | (with_reducible refine LeO.bind ?_ (fun _ => ?_))
   | exact ih0 _ _ _ _ _ _
   | exact ih1 _ _ _ _ _ _ _
   | exact ih2 _ _ _ _ _ _ _ _
   | exact ih3 _ _ _ _ _ _ _ _ _
   | exact ih4 _ _ _ _ _ _ _ _
   | exact spec_l11Free.mono _ _ _ _ _
   | exact spec_l11Is.mono _ _ _ _ _
   | exact spec_l11Live.mono _ _ _ _
   | exact LeO.none _
   | refine LeO.ite ?_ ?_
   | refine LeO.bind ?_ (fun _ => ?_)
set_option maxHeartbeats 8000000 in
set_option maxRecDepth 100000 in
theorem spec_UsefulStates.calls (k : Nat) (a0_0 : Int) (a0_1 : Int) (a0_2 : Int) (A0_3 : Option Addr) (c0_3 : Nat) (l0_3 : List (List Int)) (r1 : Int) (r2 : Int) (w : World) (hr0_3 : Kd.C (Kd.slice 2 (Kd.int .i64)) w A0_3 l0_3.length l0_3) (hc0_3 : l0_3.length ≤ c0_3) (h : spec_UsefulStates.f k a0_0 a0_1 a0_2 l0_3 = some (r1, r2)) :
  Calls Try.prog 25 #[.agg #[.int .i64 a0_0, .int .i64 a0_1, .int .i64 a0_2, .slice A0_3 l0_3.length c0_3]] w fun e w' => e = .returned (.tuple #[.int .i64 r1, .int .i64 r2]) ∧ Below w.heap.size w w' := by
 have hu38 := Try.underlying38
 have HR0_3 := Aside0.mk hr0_3
 have HC0_3 := Aside0.mk hc0_3
 clear hr0_3 hc0_3
 have HB := Aside0.mk (Below.refl w.heap.size w)
 have H : ((spec_l11Is.f k a0_0 a0_1 a0_2 l0_3).bind fun t445 => (if t445 = true then ((spec_l01One.f a0_1).bind fun t446 => (spec_UsefulStates.l0 k t446 true a0_0 a0_1 a0_2 l0_3)) else (some (0, 1)))) = some (r1, r2) := h
 clear h
 replace H := Option.bind_eq_some_iff.mp H
 obtain ⟨t445, A20, H⟩ := H
 replace H : (if t445 = true then ((spec_l01One.f a0_1).bind fun t446 => (spec_UsefulStates.l0 k t446 true a0_0 a0_1 a0_2 l0_3)) else (some (0, 1))) = some (r1, r2) := H
 have A2 := Aside0.mk A20
 clear A20
 by_cases c3 : t445 = true
 ·subst c3
  have H1 : ((spec_l01One.f a0_1).bind fun t446 => (spec_UsefulStates.l0 k t446 true a0_0 a0_1 a0_2 l0_3)) = some (r1, r2) := by rw [if_pos rfl] at H; exact H
  clear H
  have H := H1
  clear H1
  replace H := Option.bind_eq_some_iff.mp H
  obtain ⟨t446, A40, H⟩ := H
  replace H : (spec_UsefulStates.l0 k t446 true a0_0 a0_1 a0_2 l0_3) = some (r1, r2) := H
  have A4 := Aside0.mk A40
  clear A40
  have H' := Aside0.mk H
  clear H
  go_enter Try.func25, Try.ntmps25
  go_wp2_with (first | ((with_reducible refine gate_dst (N := 1) rfl ?_); refine boxS (N := 1) (cs := #[.int .i64 a0_0, .int .i64 a0_1, .int .i64 a0_2, .slice A0_3 l0_3.length c0_3]) (t := 38) ?_; intro gb444 hg w5 hbox hb; have n0_ := Aside0.mk (below_step (bW) hb); have n1_ := Aside0.mk (hbox); have n2_ := geW (w := w) hg; have n3_ := geW (w := w) hg; clear HB; have HB := n0_; have BK444 := n1_; have GW444 := n2_; have GE444 := n3_; clear n0_ n1_ n2_ n3_; clear hb hbox hg; obtain ⟨hcz6_0, hcz6_1, hcz6_2, hcz6_3⟩ := cells4 BK444.out; obtain ⟨hfz6_0, hfz6_1, hfz6_2, hfz6_3⟩ := frz4 BK444.out) | ((with_reducible refine gate_callee (f := 33) rfl ?_); refine goesS (some 13) Try.func33 #[.agg #[.int .i64 a0_0, .int .i64 a0_1, .int .i64 a0_2, .slice A0_3 l0_3.length c0_3]] ?_; (with_reducible refine (spec_l11Is.calls k a0_0 a0_1 a0_2 _ _ l0_3 true _ ?side1 ?side2 A2.out).mono ?_); (case side1 => exact cP (Kd.C_below HR0_3.out HB.out)); (case side2 => exact HC0_3.out); rintro e w7 ⟨rfl, hb⟩; refine ⟨_, rfl, ?_⟩; have n0_ := Aside0.mk (blkB BK444.out hb); have n1_ := Aside0.mk (below_step (bW) hb); clear BK444; clear HB; have BK444 := n0_; have HB := n1_; clear n0_ n1_; (try clear hb); (try clear hb2); (try clear hk); (try clear hi); obtain ⟨hcz8_0, hcz8_1, hcz8_2, hcz8_3⟩ := cells4 BK444.out; obtain ⟨hfz8_0, hfz8_1, hfz8_2, hfz8_3⟩ := frz4 BK444.out) | ((with_reducible refine gate_callee (f := 50) rfl ?_); refine goesS (some 17) Try.func50 #[.int .i64 a0_1] ?_; (with_reducible refine (spec_l01One.calls a0_1 t446 _ A4.out).mono ?_); rintro e w' ⟨rfl, ⟨nd, rfl⟩⟩; refine ⟨_, rfl, ?_⟩))
  go_loopg [4, 5] k (fun kq v4 v5 w' => ∃ (x4_1 : Int) (x5_1 : Bool), v4 = .int .i64 x4_1 ∧ v5 = .bool x5_1 ∧ Aside0 (spec_UsefulStates.l0 kq x4_1 x5_1 a0_0 a0_1 a0_2 l0_3 = some (r1, r2)) ∧ Aside0 (kq ≤ k) ∧ Aside0 (w'.heap[gb444]? = some (.cells #[.int .i64 a0_0, .int .i64 a0_1, .int .i64 a0_2, (.slice A0_3 l0_3.length c0_3)] 38 (0, 0))) ∧ Aside0 (Below w.heap.size w w'))
  case atStart => exact ⟨(t446), (true), (eW), (eW), H', ⟨Nat.le_refl _⟩, ⟨(bP BK444.out)⟩, ⟨bW⟩⟩
  case round =>
   clear H'
   try clear c2
   try clear p2
   try clear c3
   try clear c5
   try clear hcz6_0
   try clear hcz6_1
   try clear hcz6_2
   try clear hcz6_3
   try clear hcz8_0
   try clear hcz8_1
   try clear hcz8_2
   try clear hcz8_3
   try clear hfz6_0
   try clear hfz6_1
   try clear hfz6_2
   try clear hfz6_3
   try clear hfz8_0
   try clear hfz8_1
   try clear hfz8_2
   try clear hfz8_3
   obtain ⟨x4_1, x5_1, rfl, rfl, HA, HK1, BK444, HB⟩ := hrel
   cases gk with
   | zero => exact absurd HA.out (by simp [spec_UsefulStates.l0])
   | succ k1 =>
    have H := HA.out
    clear HA
    simp only [spec_UsefulStates.l0] at H
    by_cases c9 : x5_1 = true
    ·subst c9
     have H1 : (spec_UsefulStates.l1 k1 x4_1 false 0 a0_0 a0_1 a0_2 l0_3) = some (r1, r2) := by rw [if_pos rfl] at H; exact H
     clear H
     have H := H1
     clear H1
     have H' := Aside0.mk H
     clear H
     go_wp2
     go_loopg [4, 5, 6] k1 (fun kq v4 v5 v6 w' => ∃ (x4_2 : Int) (x5_2 : Bool) (x6_2 : Int), v4 = .int .i64 x4_2 ∧ v5 = .bool x5_2 ∧ v6 = .int .i64 x6_2 ∧ Aside0 (spec_UsefulStates.l1 kq x4_2 x5_2 x6_2 a0_0 a0_1 a0_2 l0_3 = some (r1, r2)) ∧ Aside0 (kq ≤ k1) ∧ Aside0 (w'.heap[gb444]? = some (.cells #[.int .i64 a0_0, .int .i64 a0_1, .int .i64 a0_2, (.slice A0_3 l0_3.length c0_3)] 38 (0, 0))) ∧ Aside0 (Below w.heap.size w w'))
     case atStart => exact ⟨(x4_1), (false), (0), (eW), (eW), (eW), H', ⟨Nat.le_refl _⟩, ⟨(bP BK444.out)⟩, ⟨bW⟩⟩
     case round =>
      clear H'
      try clear c2
      try clear p2
      try clear c3
      try clear c5
      try clear c9
      try clear hcz6_0
      try clear hcz6_1
      try clear hcz6_2
      try clear hcz6_3
      try clear hcz8_0
      try clear hcz8_1
      try clear hcz8_2
      try clear hcz8_3
      try clear hfz6_0
      try clear hfz6_1
      try clear hfz6_2
      try clear hfz6_3
      try clear hfz8_0
      try clear hfz8_1
      try clear hfz8_2
      try clear hfz8_3
      try clear p2
      obtain ⟨x4_2, x5_2, x6_2, rfl, rfl, rfl, HA, HK2, BK444, HB⟩ := hrel
      cases gk with
      | zero => exact absurd HA.out (by simp [spec_UsefulStates.l1])
      | succ k2 =>
       have H := HA.out
       clear HA
       simp only [spec_UsefulStates.l1] at H
       replace H := Option.bind_eq_some_iff.mp H
       obtain ⟨t447, A100, H⟩ := H
       replace H : (if x6_2 < t447 then (spec_UsefulStates.l2 k2 x4_2 x5_2 x6_2 0 a0_0 a0_1 a0_2 l0_3) else (spec_UsefulStates.l0 k2 x4_2 x5_2 a0_0 a0_1 a0_2 l0_3)) = some (r1, r2) := H
       have A10 := Aside0.mk A100
       clear A100
       by_cases c11 : x6_2 < t447
       ·rw [if_pos c11] at H
        have c11b0 : decide (x6_2 < t447) = true := decide_eq_true c11
        clear c11
        have H' := Aside0.mk H
        clear H
        have hcz12_0 : wr.cell? ⟨gb444, 0, none⟩ = some (.int .i64 a0_0) := (blk_cell BK444.out 0).trans rfl
        have hcz12_1 : wr.cell? ⟨gb444, 1, none⟩ = some (.int .i64 a0_1) := (blk_cell BK444.out 1).trans rfl
        have hcz12_2 : wr.cell? ⟨gb444, 2, none⟩ = some (.int .i64 a0_2) := (blk_cell BK444.out 2).trans rfl
        have hcz12_3 : wr.cell? ⟨gb444, 3, none⟩ = some (.slice A0_3 l0_3.length c0_3) := (blk_cell BK444.out 3).trans rfl
        have hfz12_0 := blk_frozen BK444.out 0
        have hfz12_1 := blk_frozen BK444.out 1
        have hfz12_2 := blk_frozen BK444.out 2
        have hfz12_3 := blk_frozen BK444.out 3
        go_wp2_with (first | ((with_reducible refine gate_callee (f := 51) rfl ?_); refine goesS (some 21) Try.func51 #[.agg #[.int .i64 a0_0, .int .i64 a0_1, .int .i64 a0_2, .slice A0_3 l0_3.length c0_3]] ?_; (with_reducible refine (spec_l11States.calls a0_0 a0_1 a0_2 _ _ l0_3 t447 _ ?side1 ?side2 A10.out).mono ?_); (case side1 => exact cP (Kd.C_below HR0_3.out HB.out)); (case side2 => exact HC0_3.out); rintro e w13 ⟨rfl, hb⟩; refine ⟨_, rfl, ?_⟩; have n0_ := Aside0.mk (blkB BK444.out hb); have n1_ := Aside0.mk (below_step (bW) hb); clear BK444; clear HB; have BK444 := n0_; have HB := n1_; clear n0_ n1_; (try clear hb); (try clear hb2); (try clear hk); (try clear hi)))
        go_loopg [4, 5, 7] k2 (fun kq v4 v5 v7 w' => ∃ (x4_3 : Int) (x5_3 : Bool) (x7_3 : Int), v4 = .int .i64 x4_3 ∧ v5 = .bool x5_3 ∧ v7 = .int .i64 x7_3 ∧ Aside0 (spec_UsefulStates.l2 kq x4_3 x5_3 x6_2 x7_3 a0_0 a0_1 a0_2 l0_3 = some (r1, r2)) ∧ Aside0 (kq ≤ k2) ∧ Aside0 (w'.heap[gb444]? = some (.cells #[.int .i64 a0_0, .int .i64 a0_1, .int .i64 a0_2, (.slice A0_3 l0_3.length c0_3)] 38 (0, 0))) ∧ Aside0 (Below w.heap.size w w'))
        case atStart => exact ⟨(x4_2), (x5_2), (0), (eW), (eW), (eW), H', ⟨Nat.le_refl _⟩, ⟨(bP BK444.out)⟩, ⟨bW⟩⟩
        case round =>
         clear H'
         try clear c1
         try clear c2
         try clear p2
         try clear c3
         try clear c5
         try clear c9
         try clear c11
         try clear c11b0
         try clear hcz12_0
         try clear hcz12_1
         try clear hcz12_2
         try clear hcz12_3
         try clear hcz6_0
         try clear hcz6_1
         try clear hcz6_2
         try clear hcz6_3
         try clear hcz8_0
         try clear hcz8_1
         try clear hcz8_2
         try clear hcz8_3
         try clear hfz12_0
         try clear hfz12_1
         try clear hfz12_2
         try clear hfz12_3
         try clear hfz6_0
         try clear hfz6_1
         try clear hfz6_2
         try clear hfz6_3
         try clear hfz8_0
         try clear hfz8_1
         try clear hfz8_2
         try clear hfz8_3
         try clear p2
         obtain ⟨x4_3, x5_3, x7_3, rfl, rfl, rfl, HA, HK3, BK444, HB⟩ := hrel
         cases gk with
         | zero => exact absurd HA.out (by simp [spec_UsefulStates.l2])
         | succ k3 =>
          have H := HA.out
          clear HA
          simp only [spec_UsefulStates.l2] at H
          have HC14 := Aside0.mk H
          clear H
          go_upto_region 11 with (fail)
          go_cut [33] (fun v33 wc => ∃ (kq : Nat) (x33_13 : Bool), v33 = .bool x33_13 ∧ Aside0 (spec_UsefulStates.j3 kq x4_3 x5_3 x6_2 x7_3 x33_13 a0_0 a0_1 a0_2 l0_3 = some (r1, r2)) ∧ Aside0 (kq ≤ k3) ∧ Aside0 (wc.heap[gb444]? = some (.cells #[.int .i64 a0_0, .int .i64 a0_1, .int .i64 a0_2, (.slice A0_3 l0_3.length c0_3)] 38 (0, 0))) ∧ Aside0 (Below w.heap.size w wc))
          case first =>
           have H := HC14.out
           clear HC14
           by_cases c15 : x7_3 < a0_0
           ·rw [if_pos c15] at H
            have c15b0 : decide (x7_3 < a0_0) = true := decide_eq_true c15
            clear c15
            (first | rw [c15b0] | (simp only [i64_w, i32_w]; rw [c15b0]) | skip)
            replace H := Option.bind_eq_some_iff.mp H
            obtain ⟨t448, A160, H⟩ := H
            replace H : (spec_UsefulStates.j3 k3 x4_3 x5_3 x6_2 x7_3 t448 a0_0 a0_1 a0_2 l0_3) = some (r1, r2) := H
            have A16 := Aside0.mk A160
            clear A160
            have H' := Aside0.mk H
            clear H
            have hcz17_0 : wr.cell? ⟨gb444, 0, none⟩ = some (.int .i64 a0_0) := (blk_cell BK444.out 0).trans rfl
            have hcz17_1 : wr.cell? ⟨gb444, 1, none⟩ = some (.int .i64 a0_1) := (blk_cell BK444.out 1).trans rfl
            have hcz17_2 : wr.cell? ⟨gb444, 2, none⟩ = some (.int .i64 a0_2) := (blk_cell BK444.out 2).trans rfl
            have hcz17_3 : wr.cell? ⟨gb444, 3, none⟩ = some (.slice A0_3 l0_3.length c0_3) := (blk_cell BK444.out 3).trans rfl
            have hfz17_0 := blk_frozen BK444.out 0
            have hfz17_1 := blk_frozen BK444.out 1
            have hfz17_2 := blk_frozen BK444.out 2
            have hfz17_3 := blk_frozen BK444.out 3
            go_wp2_with (first | (go_at_call 52; (with_reducible refine (spec_l01Bit.calls x4_3 x6_2 t448 _ A16.out).mono ?_); rintro e w' ⟨rfl, ⟨nd, rfl⟩⟩))
            go_meet
            case rel => exact ⟨_, (t448), (eW), H', ⟨by have := HK1.out; have := HK2.out; have := HK3.out; first | omega | exact Nat.le_refl _⟩, ⟨(bP BK444.out)⟩, ⟨bW⟩⟩
           ·rw [if_neg c15] at H
            have c15b0 : decide (x7_3 < a0_0) = false := decide_eq_false c15
            clear c15
            (first | rw [c15b0] | (simp only [i64_w, i32_w]; rw [c15b0]) | skip)
            have H' := Aside0.mk H
            clear H
            have hcz18_0 : wr.cell? ⟨gb444, 0, none⟩ = some (.int .i64 a0_0) := (blk_cell BK444.out 0).trans rfl
            have hcz18_1 : wr.cell? ⟨gb444, 1, none⟩ = some (.int .i64 a0_1) := (blk_cell BK444.out 1).trans rfl
            have hcz18_2 : wr.cell? ⟨gb444, 2, none⟩ = some (.int .i64 a0_2) := (blk_cell BK444.out 2).trans rfl
            have hcz18_3 : wr.cell? ⟨gb444, 3, none⟩ = some (.slice A0_3 l0_3.length c0_3) := (blk_cell BK444.out 3).trans rfl
            have hfz18_0 := blk_frozen BK444.out 0
            have hfz18_1 := blk_frozen BK444.out 1
            have hfz18_2 := blk_frozen BK444.out 2
            have hfz18_3 := blk_frozen BK444.out 3
            go_wp2
            go_meet
            case rel => exact ⟨_, (false), (eW), H', ⟨by have := HK1.out; have := HK2.out; have := HK3.out; first | omega | exact Nat.le_refl _⟩, ⟨(bP BK444.out)⟩, ⟨bW⟩⟩
          case rest =>
           clear HC14
           try clear c1
           try clear c2
           try clear p2
           try clear c3
           try clear c5
           try clear c9
           try clear c11
           try clear c11b0
           try clear c15
           try clear c15b0
           try clear hcz12_0
           try clear hcz12_1
           try clear hcz12_2
           try clear hcz12_3
           try clear hcz17_0
           try clear hcz17_1
           try clear hcz17_2
           try clear hcz17_3
           try clear hcz18_0
           try clear hcz18_1
           try clear hcz18_2
           try clear hcz18_3
           try clear hcz6_0
           try clear hcz6_1
           try clear hcz6_2
           try clear hcz6_3
           try clear hcz8_0
           try clear hcz8_1
           try clear hcz8_2
           try clear hcz8_3
           try clear hfz12_0
           try clear hfz12_1
           try clear hfz12_2
           try clear hfz12_3
           try clear hfz17_0
           try clear hfz17_1
           try clear hfz17_2
           try clear hfz17_3
           try clear hfz18_0
           try clear hfz18_1
           try clear hfz18_2
           try clear hfz18_3
           try clear hfz6_0
           try clear hfz6_1
           try clear hfz6_2
           try clear hfz6_3
           try clear hfz8_0
           try clear hfz8_1
           try clear hfz8_2
           try clear hfz8_3
           try clear p2
           obtain ⟨kq, x33_13, rfl, HA, HJ13, BK444, HB⟩ := hcut
           cases kq with
           | zero => exact absurd HA.out (by simp [spec_UsefulStates.j3])
           | succ kj13 =>
            have H := HA.out
            clear HA
            simp only [spec_UsefulStates.j3] at H
            by_cases c19 : x33_13 = true
            ·subst c19
             have H1 : (if 0 ≤ x6_2 then (if x6_2 < (l0_3.length : Int) then (if 0 ≤ x7_3 then (if x7_3 < ((rd_L1 l0_3 x6_2).length : Int) then (if (rd (rd_L1 l0_3 x6_2) x7_3) ≥ 0 then ((spec_l01Bit.f x4_3 (rd (rd_L1 l0_3 x6_2) x7_3)).bind fun t451 => (if t451 = true then (spec_UsefulStates.l2 kj13 x4_3 x5_3 x6_2 (wrap64 (x7_3 + 1)) a0_0 a0_1 a0_2 l0_3) else ((spec_l01One.f (rd (rd_L1 l0_3 x6_2) x7_3)).bind fun t452 => (spec_UsefulStates.l2 kj13 (Go.bits .or .i64 x4_3 t452) true x6_2 (wrap64 (x7_3 + 1)) a0_0 a0_1 a0_2 l0_3)))) else (spec_UsefulStates.l2 kj13 x4_3 x5_3 x6_2 (wrap64 (x7_3 + 1)) a0_0 a0_1 a0_2 l0_3)) else (none)) else (none)) else (none)) else (none)) = some (r1, r2) := by rw [if_pos rfl] at H; exact H
             clear H
             have H := H1
             clear H1
             by_cases c20 : 0 ≤ x6_2
             ·rw [if_pos c20] at H
              have c20b0 : decide (0 ≤ x6_2) = true := decide_eq_true c20
              clear c20
              by_cases c21 : x6_2 < (l0_3.length : Int)
              ·rw [if_pos c21] at H
               have c21b0 : decide (x6_2 < (l0_3.length : Int)) = true := decide_eq_true c21
               clear c21
               by_cases c22 : 0 ≤ x7_3
               ·rw [if_pos c22] at H
                have c22b0 : decide (0 ≤ x7_3) = true := decide_eq_true c22
                clear c22
                by_cases c23 : x7_3 < ((rd_L1 l0_3 x6_2).length : Int)
                ·rw [if_pos c23] at H
                 have c23b0 : decide (x7_3 < ((rd_L1 l0_3 x6_2).length : Int)) = true := decide_eq_true c23
                 clear c23
                 by_cases c24 : (rd (rd_L1 l0_3 x6_2) x7_3) ≥ 0
                 ·rw [if_pos c24] at H
                  have c24b0 : decide (0 ≤ (rd (rd_L1 l0_3 x6_2) x7_3)) = true := decide_eq_true c24
                  clear c24
                  replace H := Option.bind_eq_some_iff.mp H
                  obtain ⟨t451, A250, H⟩ := H
                  replace H : (if t451 = true then (spec_UsefulStates.l2 kj13 x4_3 x5_3 x6_2 (wrap64 (x7_3 + 1)) a0_0 a0_1 a0_2 l0_3) else ((spec_l01One.f (rd (rd_L1 l0_3 x6_2) x7_3)).bind fun t452 => (spec_UsefulStates.l2 kj13 (Go.bits .or .i64 x4_3 t452) true x6_2 (wrap64 (x7_3 + 1)) a0_0 a0_1 a0_2 l0_3))) = some (r1, r2) := H
                  have A25 := Aside0.mk A250
                  clear A250
                  by_cases c26 : t451 = true
                  ·subst c26
                   have H1 : (spec_UsefulStates.l2 kj13 x4_3 x5_3 x6_2 (wrap64 (x7_3 + 1)) a0_0 a0_1 a0_2 l0_3) = some (r1, r2) := by rw [if_pos rfl] at H; exact H
                   clear H
                   have H := H1
                   clear H1
                   have H' := Aside0.mk H
                   clear H
                   have hcz27_0 : wc.cell? ⟨gb444, 0, none⟩ = some (.int .i64 a0_0) := (blk_cell BK444.out 0).trans rfl
                   have hcz27_1 : wc.cell? ⟨gb444, 1, none⟩ = some (.int .i64 a0_1) := (blk_cell BK444.out 1).trans rfl
                   have hcz27_2 : wc.cell? ⟨gb444, 2, none⟩ = some (.int .i64 a0_2) := (blk_cell BK444.out 2).trans rfl
                   have hcz27_3 : wc.cell? ⟨gb444, 3, none⟩ = some (.slice A0_3 l0_3.length c0_3) := (blk_cell BK444.out 3).trans rfl
                   have hfz27_0 := blk_frozen BK444.out 0
                   have hfz27_1 := blk_frozen BK444.out 1
                   have hfz27_2 := blk_frozen BK444.out 2
                   have hfz27_3 := blk_frozen BK444.out 3
                   have p449 : 0 ≤ (x6_2 : Int) := ofD
                   have q449 : x6_2 < (l0_3.length : Int) := ofD
                   obtain ⟨ad449, A449_0, c449_0, e449, hx449_0, hl449_0, hi449_0⟩ := at_L1 HR0_3.out x6_2 p449 q449
                   cases e449
                   replace hx449_0 := (HB.out.cell (World.block_lt_of_cell? w _ hx449_0)).trans hx449_0
                   have HR449_0 := Aside0.mk hi449_0
                   have HC449_0 := Aside0.mk hl449_0
                   clear hi449_0 hl449_0
                   replace p449 := eq_true p449
                   replace q449 := eq_true q449
                   have p450 : 0 ≤ (x7_3 : Int) := ofD
                   have q450 : x7_3 < ((rd_L1 l0_3 x6_2).length : Int) := ofD
                   obtain ⟨ad450, e450, hx450_0⟩ := Kd.at_int HR449_0.out x7_3 p450 q450
                   cases e450
                   replace hx450_0 := (HB.out.cell (World.block_lt_of_cell? w _ hx450_0)).trans hx450_0
                   replace p450 := eq_true p450
                   replace q450 := eq_true q450
                   go_wp2_with (first | (go_at_call 52; (with_reducible refine (spec_l01Bit.calls x4_3 (rd (rd_L1 l0_3 x6_2) x7_3) true _ A25.out).mono ?_); rintro e w' ⟨rfl, ⟨nd, rfl⟩⟩))
                   go_roundg kj13
                   case measure => have := HK1.out; have := HK2.out; have := HK3.out; have := HJ13.out; omega
                   case rel => exact ⟨(x4_3), (x5_3), (wrap64 (x7_3 + 1)), (eW), (eW), (eW), H', ⟨by have := HK1.out; have := HK2.out; have := HK3.out; have := HJ13.out; omega⟩, ⟨(bP BK444.out)⟩, ⟨bW⟩⟩
                  ·replace c26 := Bool.eq_false_iff.mpr c26
                   subst c26
                   have H1 : ((spec_l01One.f (rd (rd_L1 l0_3 x6_2) x7_3)).bind fun t452 => (spec_UsefulStates.l2 kj13 (Go.bits .or .i64 x4_3 t452) true x6_2 (wrap64 (x7_3 + 1)) a0_0 a0_1 a0_2 l0_3)) = some (r1, r2) := by rw [if_neg (show ¬ (false = true) by decide)] at H; exact H
                   clear H
                   have H := H1
                   clear H1
                   replace H := Option.bind_eq_some_iff.mp H
                   obtain ⟨t452, A280, H⟩ := H
                   replace H : (spec_UsefulStates.l2 kj13 (Go.bits .or .i64 x4_3 t452) true x6_2 (wrap64 (x7_3 + 1)) a0_0 a0_1 a0_2 l0_3) = some (r1, r2) := H
                   have A28 := Aside0.mk A280
                   clear A280
                   have H' := Aside0.mk H
                   clear H
                   have hcz29_0 : wc.cell? ⟨gb444, 0, none⟩ = some (.int .i64 a0_0) := (blk_cell BK444.out 0).trans rfl
                   have hcz29_1 : wc.cell? ⟨gb444, 1, none⟩ = some (.int .i64 a0_1) := (blk_cell BK444.out 1).trans rfl
                   have hcz29_2 : wc.cell? ⟨gb444, 2, none⟩ = some (.int .i64 a0_2) := (blk_cell BK444.out 2).trans rfl
                   have hcz29_3 : wc.cell? ⟨gb444, 3, none⟩ = some (.slice A0_3 l0_3.length c0_3) := (blk_cell BK444.out 3).trans rfl
                   have hfz29_0 := blk_frozen BK444.out 0
                   have hfz29_1 := blk_frozen BK444.out 1
                   have hfz29_2 := blk_frozen BK444.out 2
                   have hfz29_3 := blk_frozen BK444.out 3
                   have p449 : 0 ≤ (x6_2 : Int) := ofD
                   have q449 : x6_2 < (l0_3.length : Int) := ofD
                   obtain ⟨ad449, A449_0, c449_0, e449, hx449_0, hl449_0, hi449_0⟩ := at_L1 HR0_3.out x6_2 p449 q449
                   cases e449
                   replace hx449_0 := (HB.out.cell (World.block_lt_of_cell? w _ hx449_0)).trans hx449_0
                   have HR449_0 := Aside0.mk hi449_0
                   have HC449_0 := Aside0.mk hl449_0
                   clear hi449_0 hl449_0
                   replace p449 := eq_true p449
                   replace q449 := eq_true q449
                   have p450 : 0 ≤ (x7_3 : Int) := ofD
                   have q450 : x7_3 < ((rd_L1 l0_3 x6_2).length : Int) := ofD
                   obtain ⟨ad450, e450, hx450_0⟩ := Kd.at_int HR449_0.out x7_3 p450 q450
                   cases e450
                   replace hx450_0 := (HB.out.cell (World.block_lt_of_cell? w _ hx450_0)).trans hx450_0
                   replace p450 := eq_true p450
                   replace q450 := eq_true q450
                   go_wp2_with (first | (go_at_call 52; (with_reducible refine (spec_l01Bit.calls x4_3 (rd (rd_L1 l0_3 x6_2) x7_3) false _ A25.out).mono ?_); rintro e w' ⟨rfl, ⟨nd, rfl⟩⟩) | ((with_reducible refine gate_callee (f := 50) rfl ?_); refine goesS (some 54) Try.func50 #[.int .i64 (rd (rd_L1 l0_3 x6_2) x7_3)] ?_; (with_reducible refine (spec_l01One.calls (rd (rd_L1 l0_3 x6_2) x7_3) t452 _ A28.out).mono ?_); rintro e w' ⟨rfl, ⟨nd, rfl⟩⟩; refine ⟨_, rfl, ?_⟩))
                   go_roundg kj13
                   case measure => have := HK1.out; have := HK2.out; have := HK3.out; have := HJ13.out; omega
                   case rel => exact ⟨(Go.bits .or .i64 x4_3 t452), (true), (wrap64 (x7_3 + 1)), (eW), (eW), (eW), H', ⟨by have := HK1.out; have := HK2.out; have := HK3.out; have := HJ13.out; omega⟩, ⟨(bP BK444.out)⟩, ⟨bW⟩⟩
                 ·rw [if_neg c24] at H
                  have c24b0 : decide (0 ≤ (rd (rd_L1 l0_3 x6_2) x7_3)) = false := decide_eq_false c24
                  clear c24
                  have H' := Aside0.mk H
                  clear H
                  have hcz30_0 : wc.cell? ⟨gb444, 0, none⟩ = some (.int .i64 a0_0) := (blk_cell BK444.out 0).trans rfl
                  have hcz30_1 : wc.cell? ⟨gb444, 1, none⟩ = some (.int .i64 a0_1) := (blk_cell BK444.out 1).trans rfl
                  have hcz30_2 : wc.cell? ⟨gb444, 2, none⟩ = some (.int .i64 a0_2) := (blk_cell BK444.out 2).trans rfl
                  have hcz30_3 : wc.cell? ⟨gb444, 3, none⟩ = some (.slice A0_3 l0_3.length c0_3) := (blk_cell BK444.out 3).trans rfl
                  have hfz30_0 := blk_frozen BK444.out 0
                  have hfz30_1 := blk_frozen BK444.out 1
                  have hfz30_2 := blk_frozen BK444.out 2
                  have hfz30_3 := blk_frozen BK444.out 3
                  have p449 : 0 ≤ (x6_2 : Int) := ofD
                  have q449 : x6_2 < (l0_3.length : Int) := ofD
                  obtain ⟨ad449, A449_0, c449_0, e449, hx449_0, hl449_0, hi449_0⟩ := at_L1 HR0_3.out x6_2 p449 q449
                  cases e449
                  replace hx449_0 := (HB.out.cell (World.block_lt_of_cell? w _ hx449_0)).trans hx449_0
                  have HR449_0 := Aside0.mk hi449_0
                  have HC449_0 := Aside0.mk hl449_0
                  clear hi449_0 hl449_0
                  replace p449 := eq_true p449
                  replace q449 := eq_true q449
                  have p450 : 0 ≤ (x7_3 : Int) := ofD
                  have q450 : x7_3 < ((rd_L1 l0_3 x6_2).length : Int) := ofD
                  obtain ⟨ad450, e450, hx450_0⟩ := Kd.at_int HR449_0.out x7_3 p450 q450
                  cases e450
                  replace hx450_0 := (HB.out.cell (World.block_lt_of_cell? w _ hx450_0)).trans hx450_0
                  replace p450 := eq_true p450
                  replace q450 := eq_true q450
                  go_wp2
                  go_roundg kj13
                  case measure => have := HK1.out; have := HK2.out; have := HK3.out; have := HJ13.out; omega
                  case rel => exact ⟨(x4_3), (x5_3), (wrap64 (x7_3 + 1)), (eW), (eW), (eW), H', ⟨by have := HK1.out; have := HK2.out; have := HK3.out; have := HJ13.out; omega⟩, ⟨(bP BK444.out)⟩, ⟨bW⟩⟩
                ·rw [if_neg c23] at H
                 exact absurd H (by simp)
               ·rw [if_neg c22] at H
                exact absurd H (by simp)
              ·rw [if_neg c21] at H
               exact absurd H (by simp)
             ·rw [if_neg c20] at H
              exact absurd H (by simp)
            ·replace c19 := Bool.eq_false_iff.mpr c19
             subst c19
             have H1 : (spec_UsefulStates.l1 kj13 x4_3 x5_3 (wrap64 (x6_2 + 1)) a0_0 a0_1 a0_2 l0_3) = some (r1, r2) := by rw [if_neg (show ¬ (false = true) by decide)] at H; exact H
             clear H
             have H := H1
             clear H1
             have H' := Aside0.mk H
             clear H
             go_wp2
             go_roundg kj13
             case measure => have := HK1.out; have := HK2.out; have := HK3.out; have := HJ13.out; omega
             case rel => exact ⟨(x4_3), (x5_3), (wrap64 (x6_2 + 1)), (eW), (eW), (eW), H', ⟨by have := HK1.out; have := HK2.out; have := HK3.out; have := HJ13.out; omega⟩, ⟨(bP BK444.out)⟩, ⟨bW⟩⟩
       ·rw [if_neg c11] at H
        have c11b0 : decide (x6_2 < t447) = false := decide_eq_false c11
        clear c11
        have H' := Aside0.mk H
        clear H
        have hcz31_0 : wr.cell? ⟨gb444, 0, none⟩ = some (.int .i64 a0_0) := (blk_cell BK444.out 0).trans rfl
        have hcz31_1 : wr.cell? ⟨gb444, 1, none⟩ = some (.int .i64 a0_1) := (blk_cell BK444.out 1).trans rfl
        have hcz31_2 : wr.cell? ⟨gb444, 2, none⟩ = some (.int .i64 a0_2) := (blk_cell BK444.out 2).trans rfl
        have hcz31_3 : wr.cell? ⟨gb444, 3, none⟩ = some (.slice A0_3 l0_3.length c0_3) := (blk_cell BK444.out 3).trans rfl
        have hfz31_0 := blk_frozen BK444.out 0
        have hfz31_1 := blk_frozen BK444.out 1
        have hfz31_2 := blk_frozen BK444.out 2
        have hfz31_3 := blk_frozen BK444.out 3
        go_wp2_with (first | ((with_reducible refine gate_callee (f := 51) rfl ?_); refine goesS (some 21) Try.func51 #[.agg #[.int .i64 a0_0, .int .i64 a0_1, .int .i64 a0_2, .slice A0_3 l0_3.length c0_3]] ?_; (with_reducible refine (spec_l11States.calls a0_0 a0_1 a0_2 _ _ l0_3 t447 _ ?side1 ?side2 A10.out).mono ?_); (case side1 => exact cP (Kd.C_below HR0_3.out HB.out)); (case side2 => exact HC0_3.out); rintro e w32 ⟨rfl, hb⟩; refine ⟨_, rfl, ?_⟩; have n0_ := Aside0.mk (blkB BK444.out hb); have n1_ := Aside0.mk (below_step (bW) hb); clear BK444; clear HB; have BK444 := n0_; have HB := n1_; clear n0_ n1_; (try clear hb); (try clear hb2); (try clear hk); (try clear hi)))
        go_roundg k2
        case measure => have := HK1.out; have := HK2.out; omega
        case rel => exact ⟨(x4_2), (x5_2), (eW), (eW), H', ⟨by have := HK1.out; have := HK2.out; omega⟩, ⟨(bP BK444.out)⟩, ⟨bW⟩⟩
    ·replace c9 := Bool.eq_false_iff.mpr c9
     subst c9
     have H1 : ((spec_l11Free.f k1 a0_0 a0_1 a0_2 l0_3).bind fun bt453 => ((spec_l11Live.f k1 bt453.1 bt453.2.1 bt453.2.2).bind fun t460 => (spec_UsefulStates.l3 k1 x4_1 t460 0 0 a0_0 a0_1 a0_2 l0_3))) = some (r1, r2) := by rw [if_neg (show ¬ (false = true) by decide)] at H; exact H
     clear H
     have H := H1
     clear H1
     replace H := Option.bind_eq_some_iff.mp H
     obtain ⟨⟨t453, t454, t457⟩, A330, H⟩ := H
     replace H : ((spec_l11Live.f k1 t453 t454 t457).bind fun t460 => (spec_UsefulStates.l3 k1 x4_1 t460 0 0 a0_0 a0_1 a0_2 l0_3)) = some (r1, r2) := H
     have A33 := Aside0.mk A330
     clear A330
     replace H := Option.bind_eq_some_iff.mp H
     obtain ⟨t460, A340, H⟩ := H
     replace H : (spec_UsefulStates.l3 k1 x4_1 t460 0 0 a0_0 a0_1 a0_2 l0_3) = some (r1, r2) := H
     have A34 := Aside0.mk A340
     clear A340
     have H' := Aside0.mk H
     clear H
     have hcz35_0 : wr.cell? ⟨gb444, 0, none⟩ = some (.int .i64 a0_0) := (blk_cell BK444.out 0).trans rfl
     have hcz35_1 : wr.cell? ⟨gb444, 1, none⟩ = some (.int .i64 a0_1) := (blk_cell BK444.out 1).trans rfl
     have hcz35_2 : wr.cell? ⟨gb444, 2, none⟩ = some (.int .i64 a0_2) := (blk_cell BK444.out 2).trans rfl
     have hcz35_3 : wr.cell? ⟨gb444, 3, none⟩ = some (.slice A0_3 l0_3.length c0_3) := (blk_cell BK444.out 3).trans rfl
     have hfz35_0 := blk_frozen BK444.out 0
     have hfz35_1 := blk_frozen BK444.out 1
     have hfz35_2 := blk_frozen BK444.out 2
     have hfz35_3 := blk_frozen BK444.out 3
     go_wp2_with (first | ((with_reducible refine gate_callee (f := 54) rfl ?_); refine goesS (some 57) Try.func54 #[.agg #[.int .i64 a0_0, .int .i64 a0_1, .int .i64 a0_2, .slice A0_3 l0_3.length c0_3]] ?_; (with_reducible refine (spec_l11Free.calls k1 a0_0 a0_1 a0_2 _ _ l0_3 t453 t454 t457 _ ?side1 ?side2 A33.out).mono ?_); (case side1 => exact cP (Kd.C_below HR0_3.out HB.out)); (case side2 => exact HC0_3.out); rintro e w36 ⟨v455, v458, rfl, ho0, ho1, hb⟩; refine ⟨_, rfl, ?_⟩; have n0_ := Aside0.mk (Kd.S_lower ho0 (below_size (bW))); have n1_ := Aside0.mk (Kd.R_lower ho1 (below_size (bW))); have n2_ := Aside0.mk (blkB BK444.out hb); have n3_ := Aside0.mk (below_step (bW) hb); clear BK444; clear HB; have HO456 := n0_; have HO459 := n1_; have BK444 := n2_; have HB := n3_; clear n0_ n1_ n2_ n3_; (try clear hb); (try clear hb2); (try clear hk); (try clear hi); (try clear ho0); (try clear ho1); obtain ⟨Ao37, co37, eo37⟩ := Kd.S_slice HO456.out; subst eo37; obtain ⟨Ao38, co38, eo38⟩ := Kd.R_slice HO459.out; subst eo38) | ((with_reducible refine gate_callee (f := 53) rfl ?_); refine goesS (some 58) Try.func53 #[.agg #[.int .i64 t453, .slice Ao37 t454.length co37, .slice Ao38 t457.length co38]] ?_; (with_reducible refine (spec_l11Live.calls k1 t453 _ _ t454 _ _ t457 t460 _ ?side1 ?side2 ?side3 ?side4 A34.out).mono ?_); (case side1 => exact cP ((Kd.S_reads' HO456.out).2.2)); (case side2 => exact (Kd.S_reads' HO456.out).2.1); (case side3 => exact cP ((Kd.R_reads' HO459.out).2.2)); (case side4 => exact (Kd.R_reads' HO459.out).2.1); rintro e w39 ⟨v461, rfl, ho0, hb⟩; refine ⟨_, rfl, ?_⟩; have n0_ := Aside0.mk (Kd.S_below (sP HO456.out) hb); have n1_ := Aside0.mk (Kd.R_elder' (rP HO459.out) (Kd.R_base ho0) hb); have n2_ := Aside0.mk (Kd.R_lower (Kd.R_new' ho0 (Kd.R_lt (rP HO459.out))) (below_size (bW))); have n3_ := Aside0.mk (blkB BK444.out hb); have n4_ := Aside0.mk (below_step (bW) hb); clear HO456; clear HO459; clear BK444; clear HB; have HO456 := n0_; have HO459 := n1_; have HO462 := n2_; have BK444 := n3_; have HB := n4_; clear n0_ n1_ n2_ n3_ n4_; (try clear hb); (try clear hb2); (try clear hk); (try clear hi); (try clear ho0)))
     go_loopg [10, 11] k1 (fun kq v10 v11 w' => ∃ (x10_2 : Int) (x11_2 : Int), v10 = .int .i64 x10_2 ∧ v11 = .int .i64 x11_2 ∧ Aside0 (spec_UsefulStates.l3 kq x4_1 t460 x10_2 x11_2 a0_0 a0_1 a0_2 l0_3 = some (r1, r2)) ∧ Aside0 (kq ≤ k1) ∧ Aside0 (Kd.R Kd.bool 4 w' w.heap.size (fun _ => True) v461 t460) ∧ Aside0 (w'.heap[gb444]? = some (.cells #[.int .i64 a0_0, .int .i64 a0_1, .int .i64 a0_2, (.slice A0_3 l0_3.length c0_3)] 38 (0, 0))) ∧ Aside0 (Below w.heap.size w w'))
     case atStart => exact ⟨(0), (0), (eW), (eW), H', ⟨Nat.le_refl _⟩, ⟨by (with_reducible repeat (first | apply Kd.R_alloc | apply Kd.R_drewN | apply Kd.R_drew)); exact Kd.R_mono HO462.out (fun _ hk => trivial)⟩, ⟨(bP BK444.out)⟩, ⟨bW⟩⟩
     case round =>
      clear H'
      try clear c1
      try clear c2
      try clear p2
      try clear c3
      try clear c4
      try clear p4
      try clear q4
      try clear hx4
      try clear c5
      try clear p6
      try clear c9
      try clear c11
      try clear c11b0
      try clear c15
      try clear c15b0
      try clear c19
      try clear c20
      try clear c20b0
      try clear c21
      try clear c21b0
      try clear c22
      try clear c22b0
      try clear c23
      try clear c23b0
      try clear c24
      try clear c24b0
      try clear c25
      try clear c26
      try clear c33
      try clear hcz12_0
      try clear hcz12_1
      try clear hcz12_2
      try clear hcz12_3
      try clear hcz17_0
      try clear hcz17_1
      try clear hcz17_2
      try clear hcz17_3
      try clear hcz18_0
      try clear hcz18_1
      try clear hcz18_2
      try clear hcz18_3
      try clear hcz27_0
      try clear hcz27_1
      try clear hcz27_2
      try clear hcz27_3
      try clear hcz29_0
      try clear hcz29_1
      try clear hcz29_2
      try clear hcz29_3
      try clear hcz30_0
      try clear hcz30_1
      try clear hcz30_2
      try clear hcz30_3
      try clear hcz31_0
      try clear hcz31_1
      try clear hcz31_2
      try clear hcz31_3
      try clear hcz35_0
      try clear hcz35_1
      try clear hcz35_2
      try clear hcz35_3
      try clear hcz6_0
      try clear hcz6_1
      try clear hcz6_2
      try clear hcz6_3
      try clear hcz8_0
      try clear hcz8_1
      try clear hcz8_2
      try clear hcz8_3
      try clear hfz12_0
      try clear hfz12_1
      try clear hfz12_2
      try clear hfz12_3
      try clear hfz17_0
      try clear hfz17_1
      try clear hfz17_2
      try clear hfz17_3
      try clear hfz18_0
      try clear hfz18_1
      try clear hfz18_2
      try clear hfz18_3
      try clear hfz27_0
      try clear hfz27_1
      try clear hfz27_2
      try clear hfz27_3
      try clear hfz29_0
      try clear hfz29_1
      try clear hfz29_2
      try clear hfz29_3
      try clear hfz30_0
      try clear hfz30_1
      try clear hfz30_2
      try clear hfz30_3
      try clear hfz31_0
      try clear hfz31_1
      try clear hfz31_2
      try clear hfz31_3
      try clear hfz35_0
      try clear hfz35_1
      try clear hfz35_2
      try clear hfz35_3
      try clear hfz6_0
      try clear hfz6_1
      try clear hfz6_2
      try clear hfz6_3
      try clear hfz8_0
      try clear hfz8_1
      try clear hfz8_2
      try clear hfz8_3
      try clear hx449_0
      try clear hx450_0
      try clear p2
      try clear p449
      try clear p450
      try clear q449
      try clear q450
      obtain ⟨x10_2, x11_2, rfl, rfl, HA, HK2, HO_9, BK444, HB⟩ := hrel
      cases gk with
      | zero => exact absurd HA.out (by simp [spec_UsefulStates.l3])
      | succ k2 =>
       have H := HA.out
       clear HA
       simp only [spec_UsefulStates.l3] at H
       replace H := Option.bind_eq_some_iff.mp H
       obtain ⟨t463, A400, H⟩ := H
       replace H : (if x11_2 < t463 then ((spec_l01Bit.f x4_1 x11_2).bind fun t464 => (if t464 = true then ((spec_l11Turn.f a0_0 a0_1 a0_2 l0_3 x11_2).bind fun t465 => (if 0 ≤ t465 then (if t465 < (t460.length : Int) then (if rdOf false t460 t465 = true then ((spec_l01One.f x11_2).bind fun t467 => (spec_UsefulStates.l3 k2 x4_1 t460 (Go.bits .or .i64 x10_2 t467) (wrap64 (x11_2 + 1)) a0_0 a0_1 a0_2 l0_3)) else (spec_UsefulStates.l3 k2 x4_1 t460 x10_2 (wrap64 (x11_2 + 1)) a0_0 a0_1 a0_2 l0_3)) else (none)) else (none))) else (spec_UsefulStates.l3 k2 x4_1 t460 x10_2 (wrap64 (x11_2 + 1)) a0_0 a0_1 a0_2 l0_3))) else (some (x10_2, 0))) = some (r1, r2) := H
       have A40 := Aside0.mk A400
       clear A400
       by_cases c41 : x11_2 < t463
       ·rw [if_pos c41] at H
        have c41b0 : decide (x11_2 < t463) = true := decide_eq_true c41
        clear c41
        replace H := Option.bind_eq_some_iff.mp H
        obtain ⟨t464, A420, H⟩ := H
        replace H : (if t464 = true then ((spec_l11Turn.f a0_0 a0_1 a0_2 l0_3 x11_2).bind fun t465 => (if 0 ≤ t465 then (if t465 < (t460.length : Int) then (if rdOf false t460 t465 = true then ((spec_l01One.f x11_2).bind fun t467 => (spec_UsefulStates.l3 k2 x4_1 t460 (Go.bits .or .i64 x10_2 t467) (wrap64 (x11_2 + 1)) a0_0 a0_1 a0_2 l0_3)) else (spec_UsefulStates.l3 k2 x4_1 t460 x10_2 (wrap64 (x11_2 + 1)) a0_0 a0_1 a0_2 l0_3)) else (none)) else (none))) else (spec_UsefulStates.l3 k2 x4_1 t460 x10_2 (wrap64 (x11_2 + 1)) a0_0 a0_1 a0_2 l0_3)) = some (r1, r2) := H
        have A42 := Aside0.mk A420
        clear A420
        by_cases c43 : t464 = true
        ·subst c43
         have H1 : ((spec_l11Turn.f a0_0 a0_1 a0_2 l0_3 x11_2).bind fun t465 => (if 0 ≤ t465 then (if t465 < (t460.length : Int) then (if rdOf false t460 t465 = true then ((spec_l01One.f x11_2).bind fun t467 => (spec_UsefulStates.l3 k2 x4_1 t460 (Go.bits .or .i64 x10_2 t467) (wrap64 (x11_2 + 1)) a0_0 a0_1 a0_2 l0_3)) else (spec_UsefulStates.l3 k2 x4_1 t460 x10_2 (wrap64 (x11_2 + 1)) a0_0 a0_1 a0_2 l0_3)) else (none)) else (none))) = some (r1, r2) := by rw [if_pos rfl] at H; exact H
         clear H
         have H := H1
         clear H1
         replace H := Option.bind_eq_some_iff.mp H
         obtain ⟨t465, A440, H⟩ := H
         replace H : (if 0 ≤ t465 then (if t465 < (t460.length : Int) then (if rdOf false t460 t465 = true then ((spec_l01One.f x11_2).bind fun t467 => (spec_UsefulStates.l3 k2 x4_1 t460 (Go.bits .or .i64 x10_2 t467) (wrap64 (x11_2 + 1)) a0_0 a0_1 a0_2 l0_3)) else (spec_UsefulStates.l3 k2 x4_1 t460 x10_2 (wrap64 (x11_2 + 1)) a0_0 a0_1 a0_2 l0_3)) else (none)) else (none)) = some (r1, r2) := H
         have A44 := Aside0.mk A440
         clear A440
         by_cases c45 : 0 ≤ t465
         ·rw [if_pos c45] at H
          have c45b0 : decide (0 ≤ t465) = true := decide_eq_true c45
          clear c45
          by_cases c46 : t465 < (t460.length : Int)
          ·rw [if_pos c46] at H
           have c46b0 : decide (t465 < (t460.length : Int)) = true := decide_eq_true c46
           clear c46
           obtain ⟨bq47, hbq47⟩ : ∃ b_ : Bool, b_ = (rdOf false t460 t465) := ⟨_, rfl⟩
           replace H : (if bq47 = true then ((spec_l01One.f x11_2).bind fun t467 => (spec_UsefulStates.l3 k2 x4_1 t460 (Go.bits .or .i64 x10_2 t467) (wrap64 (x11_2 + 1)) a0_0 a0_1 a0_2 l0_3)) else (spec_UsefulStates.l3 k2 x4_1 t460 x10_2 (wrap64 (x11_2 + 1)) a0_0 a0_1 a0_2 l0_3)) = some (r1, r2) := by rw [← hbq47] at H; exact H
           have Nbq47 := Aside0.mk hbq47
           clear hbq47
           by_cases c48 : bq47 = true
           ·subst c48
            have H1 : ((spec_l01One.f x11_2).bind fun t467 => (spec_UsefulStates.l3 k2 x4_1 t460 (Go.bits .or .i64 x10_2 t467) (wrap64 (x11_2 + 1)) a0_0 a0_1 a0_2 l0_3)) = some (r1, r2) := by rw [if_pos rfl] at H; exact H
            clear H
            have H := H1
            clear H1
            replace H := Option.bind_eq_some_iff.mp H
            obtain ⟨t467, A490, H⟩ := H
            replace H : (spec_UsefulStates.l3 k2 x4_1 t460 (Go.bits .or .i64 x10_2 t467) (wrap64 (x11_2 + 1)) a0_0 a0_1 a0_2 l0_3) = some (r1, r2) := H
            have A49 := Aside0.mk A490
            clear A490
            have H' := Aside0.mk H
            clear H
            have hcz50_0 : wr.cell? ⟨gb444, 0, none⟩ = some (.int .i64 a0_0) := (blk_cell BK444.out 0).trans rfl
            have hcz50_1 : wr.cell? ⟨gb444, 1, none⟩ = some (.int .i64 a0_1) := (blk_cell BK444.out 1).trans rfl
            have hcz50_2 : wr.cell? ⟨gb444, 2, none⟩ = some (.int .i64 a0_2) := (blk_cell BK444.out 2).trans rfl
            have hcz50_3 : wr.cell? ⟨gb444, 3, none⟩ = some (.slice A0_3 l0_3.length c0_3) := (blk_cell BK444.out 3).trans rfl
            have hfz50_0 := blk_frozen BK444.out 0
            have hfz50_1 := blk_frozen BK444.out 1
            have hfz50_2 := blk_frozen BK444.out 2
            have hfz50_3 := blk_frozen BK444.out 3
            go_wp2_with (first | ((with_reducible refine gate_callee (f := 51) rfl ?_); refine goesS (some 61) Try.func51 #[.agg #[.int .i64 a0_0, .int .i64 a0_1, .int .i64 a0_2, .slice A0_3 l0_3.length c0_3]] ?_; (with_reducible refine (spec_l11States.calls a0_0 a0_1 a0_2 _ _ l0_3 t463 _ ?side1 ?side2 A40.out).mono ?_); (case side1 => exact cP (Kd.C_below HR0_3.out HB.out)); (case side2 => exact HC0_3.out); rintro e w51 ⟨rfl, hb⟩; refine ⟨_, rfl, ?_⟩; have n0_ := Aside0.mk (Kd.R_below (rP HO_9.out) hb); have n1_ := Aside0.mk (blkB BK444.out hb); have n2_ := Aside0.mk (below_step (bW) hb); clear HO_9; clear BK444; clear HB; have HO_9 := n0_; have BK444 := n1_; have HB := n2_; clear n0_ n1_ n2_; (try clear hb); (try clear hb2); (try clear hk); (try clear hi)) | ((with_reducible refine gate_callee (f := 52) rfl ?_); refine goesS (some 67) Try.func52 #[.int .i64 x4_1, .int .i64 x11_2] ?_; (with_reducible refine (spec_l01Bit.calls x4_1 x11_2 true _ A42.out).mono ?_); rintro e w' ⟨rfl, ⟨nd, rfl⟩⟩; refine ⟨_, rfl, ?_⟩; obtain ⟨hcz52_0, hcz52_1, hcz52_2, hcz52_3⟩ := cells4 BK444.out; obtain ⟨hfz52_0, hfz52_1, hfz52_2, hfz52_3⟩ := frz4 BK444.out) | (go_at_call 55; (with_reducible refine (spec_l11Turn.calls a0_0 a0_1 a0_2 _ _ l0_3 x11_2 t465 _ ?side1 ?side2 A44.out).mono ?_); (case side1 => exact cP (Kd.C_below HR0_3.out (bW))); (case side2 => exact HC0_3.out); rintro e w53 ⟨rfl, hb⟩; have n0_ := Aside0.mk (Kd.R_below (rP HO_9.out) hb); have n1_ := Aside0.mk (blkB BK444.out hb); have n2_ := Aside0.mk (below_step (bW) hb); clear HO_9; clear BK444; clear HB; have HO_9 := n0_; have BK444 := n1_; have HB := n2_; clear n0_ n1_ n2_; (try clear hb); (try clear hb2); (try clear hk); (try clear hi); obtain ⟨Ao54, co54, eo54⟩ := Kd.R_slice HO_9.out; subst eo54; have p466 : 0 ≤ (t465 : Int) := ofD; have q466 : t465 < (t460.length : Int) := ofD; obtain ⟨ad466, e466, hx466_0⟩ := Kd.at_bool (Kd.R_reads' HO_9.out).2.2 t465 p466 q466; (try rw [← Nbq47.out] at hx466_0); cases e466; replace p466 := eq_true p466; replace q466 := eq_true q466) | ((with_reducible refine gate_callee (f := 50) rfl ?_); refine goesS (some 78) Try.func50 #[.int .i64 x11_2] ?_; (with_reducible refine (spec_l01One.calls x11_2 t467 _ A49.out).mono ?_); rintro e w' ⟨rfl, ⟨nd, rfl⟩⟩; refine ⟨_, rfl, ?_⟩))
            go_roundg k2
            case measure => have := HK1.out; have := HK2.out; omega
            case rel => exact ⟨(Go.bits .or .i64 x10_2 t467), (wrap64 (x11_2 + 1)), (eW), (eW), H', ⟨by have := HK1.out; have := HK2.out; omega⟩, ⟨(rP HO_9.out)⟩, ⟨(bP BK444.out)⟩, ⟨bW⟩⟩
           ·replace c48 := Bool.eq_false_iff.mpr c48
            subst c48
            have H1 : (spec_UsefulStates.l3 k2 x4_1 t460 x10_2 (wrap64 (x11_2 + 1)) a0_0 a0_1 a0_2 l0_3) = some (r1, r2) := by rw [if_neg (show ¬ (false = true) by decide)] at H; exact H
            clear H
            have H := H1
            clear H1
            have H' := Aside0.mk H
            clear H
            have hcz55_0 : wr.cell? ⟨gb444, 0, none⟩ = some (.int .i64 a0_0) := (blk_cell BK444.out 0).trans rfl
            have hcz55_1 : wr.cell? ⟨gb444, 1, none⟩ = some (.int .i64 a0_1) := (blk_cell BK444.out 1).trans rfl
            have hcz55_2 : wr.cell? ⟨gb444, 2, none⟩ = some (.int .i64 a0_2) := (blk_cell BK444.out 2).trans rfl
            have hcz55_3 : wr.cell? ⟨gb444, 3, none⟩ = some (.slice A0_3 l0_3.length c0_3) := (blk_cell BK444.out 3).trans rfl
            have hfz55_0 := blk_frozen BK444.out 0
            have hfz55_1 := blk_frozen BK444.out 1
            have hfz55_2 := blk_frozen BK444.out 2
            have hfz55_3 := blk_frozen BK444.out 3
            go_wp2_with (first | ((with_reducible refine gate_callee (f := 51) rfl ?_); refine goesS (some 61) Try.func51 #[.agg #[.int .i64 a0_0, .int .i64 a0_1, .int .i64 a0_2, .slice A0_3 l0_3.length c0_3]] ?_; (with_reducible refine (spec_l11States.calls a0_0 a0_1 a0_2 _ _ l0_3 t463 _ ?side1 ?side2 A40.out).mono ?_); (case side1 => exact cP (Kd.C_below HR0_3.out HB.out)); (case side2 => exact HC0_3.out); rintro e w56 ⟨rfl, hb⟩; refine ⟨_, rfl, ?_⟩; have n0_ := Aside0.mk (Kd.R_below (rP HO_9.out) hb); have n1_ := Aside0.mk (blkB BK444.out hb); have n2_ := Aside0.mk (below_step (bW) hb); clear HO_9; clear BK444; clear HB; have HO_9 := n0_; have BK444 := n1_; have HB := n2_; clear n0_ n1_ n2_; (try clear hb); (try clear hb2); (try clear hk); (try clear hi)) | ((with_reducible refine gate_callee (f := 52) rfl ?_); refine goesS (some 67) Try.func52 #[.int .i64 x4_1, .int .i64 x11_2] ?_; (with_reducible refine (spec_l01Bit.calls x4_1 x11_2 true _ A42.out).mono ?_); rintro e w' ⟨rfl, ⟨nd, rfl⟩⟩; refine ⟨_, rfl, ?_⟩; obtain ⟨hcz57_0, hcz57_1, hcz57_2, hcz57_3⟩ := cells4 BK444.out; obtain ⟨hfz57_0, hfz57_1, hfz57_2, hfz57_3⟩ := frz4 BK444.out) | (go_at_call 55; (with_reducible refine (spec_l11Turn.calls a0_0 a0_1 a0_2 _ _ l0_3 x11_2 t465 _ ?side1 ?side2 A44.out).mono ?_); (case side1 => exact cP (Kd.C_below HR0_3.out (bW))); (case side2 => exact HC0_3.out); rintro e w58 ⟨rfl, hb⟩; have n0_ := Aside0.mk (Kd.R_below (rP HO_9.out) hb); have n1_ := Aside0.mk (blkB BK444.out hb); have n2_ := Aside0.mk (below_step (bW) hb); clear HO_9; clear BK444; clear HB; have HO_9 := n0_; have BK444 := n1_; have HB := n2_; clear n0_ n1_ n2_; (try clear hb); (try clear hb2); (try clear hk); (try clear hi); obtain ⟨Ao59, co59, eo59⟩ := Kd.R_slice HO_9.out; subst eo59; have p466 : 0 ≤ (t465 : Int) := ofD; have q466 : t465 < (t460.length : Int) := ofD; obtain ⟨ad466, e466, hx466_0⟩ := Kd.at_bool (Kd.R_reads' HO_9.out).2.2 t465 p466 q466; (try rw [← Nbq47.out] at hx466_0); cases e466; replace p466 := eq_true p466; replace q466 := eq_true q466))
            go_roundg k2
            case measure => have := HK1.out; have := HK2.out; omega
            case rel => exact ⟨(x10_2), (wrap64 (x11_2 + 1)), (eW), (eW), H', ⟨by have := HK1.out; have := HK2.out; omega⟩, ⟨(rP HO_9.out)⟩, ⟨(bP BK444.out)⟩, ⟨bW⟩⟩
          ·rw [if_neg c46] at H
           exact absurd H (by simp)
         ·rw [if_neg c45] at H
          exact absurd H (by simp)
        ·replace c43 := Bool.eq_false_iff.mpr c43
         subst c43
         have H1 : (spec_UsefulStates.l3 k2 x4_1 t460 x10_2 (wrap64 (x11_2 + 1)) a0_0 a0_1 a0_2 l0_3) = some (r1, r2) := by rw [if_neg (show ¬ (false = true) by decide)] at H; exact H
         clear H
         have H := H1
         clear H1
         have H' := Aside0.mk H
         clear H
         have hcz60_0 : wr.cell? ⟨gb444, 0, none⟩ = some (.int .i64 a0_0) := (blk_cell BK444.out 0).trans rfl
         have hcz60_1 : wr.cell? ⟨gb444, 1, none⟩ = some (.int .i64 a0_1) := (blk_cell BK444.out 1).trans rfl
         have hcz60_2 : wr.cell? ⟨gb444, 2, none⟩ = some (.int .i64 a0_2) := (blk_cell BK444.out 2).trans rfl
         have hcz60_3 : wr.cell? ⟨gb444, 3, none⟩ = some (.slice A0_3 l0_3.length c0_3) := (blk_cell BK444.out 3).trans rfl
         have hfz60_0 := blk_frozen BK444.out 0
         have hfz60_1 := blk_frozen BK444.out 1
         have hfz60_2 := blk_frozen BK444.out 2
         have hfz60_3 := blk_frozen BK444.out 3
         go_wp2_with (first | ((with_reducible refine gate_callee (f := 51) rfl ?_); refine goesS (some 61) Try.func51 #[.agg #[.int .i64 a0_0, .int .i64 a0_1, .int .i64 a0_2, .slice A0_3 l0_3.length c0_3]] ?_; (with_reducible refine (spec_l11States.calls a0_0 a0_1 a0_2 _ _ l0_3 t463 _ ?side1 ?side2 A40.out).mono ?_); (case side1 => exact cP (Kd.C_below HR0_3.out HB.out)); (case side2 => exact HC0_3.out); rintro e w61 ⟨rfl, hb⟩; refine ⟨_, rfl, ?_⟩; have n0_ := Aside0.mk (Kd.R_below (rP HO_9.out) hb); have n1_ := Aside0.mk (blkB BK444.out hb); have n2_ := Aside0.mk (below_step (bW) hb); clear HO_9; clear BK444; clear HB; have HO_9 := n0_; have BK444 := n1_; have HB := n2_; clear n0_ n1_ n2_; (try clear hb); (try clear hb2); (try clear hk); (try clear hi)) | ((with_reducible refine gate_callee (f := 52) rfl ?_); refine goesS (some 67) Try.func52 #[.int .i64 x4_1, .int .i64 x11_2] ?_; (with_reducible refine (spec_l01Bit.calls x4_1 x11_2 false _ A42.out).mono ?_); rintro e w' ⟨rfl, ⟨nd, rfl⟩⟩; refine ⟨_, rfl, ?_⟩))
         go_roundg k2
         case measure => have := HK1.out; have := HK2.out; omega
         case rel => exact ⟨(x10_2), (wrap64 (x11_2 + 1)), (eW), (eW), H', ⟨by have := HK1.out; have := HK2.out; omega⟩, ⟨(rP HO_9.out)⟩, ⟨(bP BK444.out)⟩, ⟨bW⟩⟩
       ·rw [if_neg c41] at H
        have c41b0 : decide (x11_2 < t463) = false := decide_eq_false c41
        clear c41
        simp only [Option.some.injEq, Prod.mk.injEq] at H
        obtain ⟨rfl, rfl⟩ := H
        have hcz62_0 : wr.cell? ⟨gb444, 0, none⟩ = some (.int .i64 a0_0) := (blk_cell BK444.out 0).trans rfl
        have hcz62_1 : wr.cell? ⟨gb444, 1, none⟩ = some (.int .i64 a0_1) := (blk_cell BK444.out 1).trans rfl
        have hcz62_2 : wr.cell? ⟨gb444, 2, none⟩ = some (.int .i64 a0_2) := (blk_cell BK444.out 2).trans rfl
        have hcz62_3 : wr.cell? ⟨gb444, 3, none⟩ = some (.slice A0_3 l0_3.length c0_3) := (blk_cell BK444.out 3).trans rfl
        have hfz62_0 := blk_frozen BK444.out 0
        have hfz62_1 := blk_frozen BK444.out 1
        have hfz62_2 := blk_frozen BK444.out 2
        have hfz62_3 := blk_frozen BK444.out 3
        go_wp2_with (first | ((with_reducible refine gate_callee (f := 51) rfl ?_); refine goesS (some 61) Try.func51 #[.agg #[.int .i64 a0_0, .int .i64 a0_1, .int .i64 a0_2, .slice A0_3 l0_3.length c0_3]] ?_; (with_reducible refine (spec_l11States.calls a0_0 a0_1 a0_2 _ _ l0_3 t463 _ ?side1 ?side2 A40.out).mono ?_); (case side1 => exact cP (Kd.C_below HR0_3.out HB.out)); (case side2 => exact HC0_3.out); rintro e w63 ⟨rfl, hb⟩; refine ⟨_, rfl, ?_⟩; have n0_ := Aside0.mk (Kd.R_below (rP HO_9.out) hb); have n1_ := Aside0.mk (blkB BK444.out hb); have n2_ := Aside0.mk (below_step (bW) hb); clear HO_9; clear BK444; clear HB; have HO_9 := n0_; have BK444 := n1_; have HB := n2_; clear n0_ n1_ n2_; (try clear hb); (try clear hb2); (try clear hk); (try clear hi)))
        go_ret2
        exact ⟨eW, bW⟩
 ·replace c3 := Bool.eq_false_iff.mpr c3
  subst c3
  have H1 : (some (0, 1)) = some (r1, r2) := by rw [if_neg (show ¬ (false = true) by decide)] at H; exact H
  clear H
  have H := H1
  clear H1
  simp only [Option.some.injEq, Prod.mk.injEq] at H
  obtain ⟨rfl, rfl⟩ := H
  go_enter Try.func25, Try.ntmps25
  go_wp2_with (first | ((with_reducible refine gate_dst (N := 1) rfl ?_); refine boxS (N := 1) (cs := #[.int .i64 a0_0, .int .i64 a0_1, .int .i64 a0_2, .slice A0_3 l0_3.length c0_3]) (t := 38) ?_; intro gb444 hg w64 hbox hb; have n0_ := Aside0.mk (below_step (bW) hb); have n1_ := Aside0.mk (hbox); have n2_ := geW (w := w) hg; have n3_ := geW (w := w) hg; clear HB; have HB := n0_; have BK444 := n1_; have GW444 := n2_; have GE444 := n3_; clear n0_ n1_ n2_ n3_; clear hb hbox hg; obtain ⟨hcz65_0, hcz65_1, hcz65_2, hcz65_3⟩ := cells4 BK444.out; obtain ⟨hfz65_0, hfz65_1, hfz65_2, hfz65_3⟩ := frz4 BK444.out) | ((with_reducible refine gate_callee (f := 33) rfl ?_); refine goesS (some 13) Try.func33 #[.agg #[.int .i64 a0_0, .int .i64 a0_1, .int .i64 a0_2, .slice A0_3 l0_3.length c0_3]] ?_; (with_reducible refine (spec_l11Is.calls k a0_0 a0_1 a0_2 _ _ l0_3 false _ ?side1 ?side2 A2.out).mono ?_); (case side1 => exact cP (Kd.C_below HR0_3.out HB.out)); (case side2 => exact HC0_3.out); rintro e w66 ⟨rfl, hb⟩; refine ⟨_, rfl, ?_⟩; have n0_ := Aside0.mk (blkB BK444.out hb); have n1_ := Aside0.mk (below_step (bW) hb); clear BK444; clear HB; have BK444 := n0_; have HB := n1_; clear n0_ n1_; (try clear hb); (try clear hb2); (try clear hk); (try clear hi)))
  go_ret2
  exact ⟨eW, bW⟩

end Go.Proofs.Ytcibmpomidhgiaa.P
end M0
section M1
namespace Go.Proofs.Ytcibmpomidhgiaa.P
open Go.RowKit Go.Proofs.Ytcibmpomidhgiaa.Sh Go.Proofs.YtcibmpomidhgiaaW.PrintWords Go.Proofs.YtcibmpomidhgiaaW.PrintLast Go.Proofs.YtcibmpomidhgiaaW.PrintMore
attribute [local go_sem] max2_int min2_int max_two min_two max_three min_three max_four min_four   -- for this text's walks alone
set_option linter.unusedVariables false
set_option linter.unusedSimpArgs false

/-! ### slices_Clone_bool_bool: function 69 -/
def slices_Clone_bool_bool.f (l0 : List Bool) : Option (List Bool) := if l0.length < 140737488355328 then some l0 else none
set_option maxHeartbeats 8000000 in
set_option maxRecDepth 100000 in
theorem slices_Clone_bool_bool.calls (A0 : Option Addr) (c0 : Nat) (l0 : List Bool) (r : List Bool) (w : World) (hr0 : Kd.C Kd.bool w A0 l0.length l0) (hc0 : l0.length ≤ c0) (h : slices_Clone_bool_bool.f l0 = some r) :
    Calls Try.prog 69 #[.slice A0 l0.length c0] w fun e w' => ∃ v0_ : Value, e = .returned (v0_) ∧ Kd.R Kd.bool 4 w' w.heap.size (fun _ => True) v0_ r ∧ Below w.heap.size w w' := by
  unfold slices_Clone_bool_bool.f at h
  by_cases c2 : l0.length < 140737488355328
  · rw [if_pos c2] at h
    have LMc2 := Aside0.mk c2
    clear c2
    obtain rfl := Option.some.inj h
    clear h
    have hq := fun (W : World) => Lib.run_eql_slice_nil (P := Try.prog) W 61 4 A0 l0.length c0 0 0 Try.underlying61
    have HR0 := Aside0.mk hr0
    have HC0 := Aside0.mk hc0
    have HB := Aside0.mk (Below.refl w.heap.size w)
    cases A0 with
    | none =>
      have hl : l0.length = 0 := by
        by_cases hn : 0 < l0.length
        · obtain ⟨_, e, _⟩ := hr0.2.2 hn
          cases e
        · omega
      have hl2 : l0 = [] := List.eq_nil_of_length_eq_zero hl
      subst hl2
      clear hl hr0 hc0
      have hq1 : ∀ W, (binOp .eql 61 (.slice none 0 c0) (.slice none 0 0)).run Try.prog W = .ok (.bool true) W := hq
      clear hq
      go_enter Try.func69, Try.ntmps69
      go_wp2
      go_ret
      exact ⟨_, rfl, Kd.R_nil _ _ _ _ _, Below.refl _ _⟩
    | some ad =>
      clear hr0 hc0
      have hq1 : ∀ W, (binOp .eql 61 (.slice (some ad) l0.length c0) (.slice none 0 0)).run Try.prog W = .ok (.bool false) W := hq
      clear hq
      go_enter Try.func69, Try.ntmps69
      go_wp2_with (first | ((with_reducible refine gate_dst (N := 5) rfl ?_); refine Kd.R_lit Kd.bool _ 4 ?hg (N := 5) ?hd (xs := ([] : List Bool)) (inner := []) (ok := fun _ => True) (okp := fun _ => True) ?hr ?hp (fun _ hk => hk) trivial (Below.refl _ _) (Nat.le_refl _) (by simp) ?_; (case hd => rfl); (case hg => rfl); (case hr => first | (go_simp; done) | (go_simp; rfl)); (case hp => exact (Reps.none _ _)); intro v203 w3 ho4 hb hg_ hnew_; clear hg_ hnew_; have n0_ := Aside0.mk (Kd.R_lower ho4 (below_size (by repeat (first | (with_reducible first | exact HB.out | apply below_alloc | apply pw_below_drewN | apply below_drew1) | exact HB.out)))); have n1_ := Aside0.mk (below_step (by repeat (first | (with_reducible first | exact HB.out | apply below_alloc | apply pw_below_drewN | apply below_drew1) | exact HB.out)) hb); clear HB; have HO204 := n0_; have HB := n1_; clear n0_ n1_; clear hb ho4) | ((with_reducible refine gate_builtin (b := .append) (xs := #[.tmp 5, .tmp 6]) rfl ?_); at_builtin; refine Kd.R_append_rows Kd.bool (w0 := w) w.heap.size rfl (.tmp 5) (.tmp 6) 61 4 (.bool false) 1 rfl Try.underlying61 info4 rfl (by decide) (by omega) v203 [] l0 _ _ _ (fun _ => True) (fun _ => False) rfl rfl ?aO ?aR (fun _ _ h => h) (fun _ h => h.elim) ?aF ?aB ?aS ?aL ?_; (case aR => repeat (first | exact (Kd.C_below HR0.out HB.out) | (with_reducible refine Kd.C_alloc ?_ _) | (with_reducible refine Kd.C_drewN ?_ _) | (with_reducible refine Kd.C_drew ?_))); (case aB => exact (by repeat (first | (with_reducible first | exact HB.out | apply below_alloc | apply pw_below_drewN | apply below_drew1) | exact HB.out))); (case aF => exact (fun _ _ => trivial)); (case aO => exact (by (with_reducible repeat (first | apply Kd.R_alloc | apply Kd.R_drewN | apply Kd.R_drew)); exact HO204.out)); (case aS => exact (below_size (by repeat (first | (with_reducible first | exact HB.out | apply below_alloc | apply pw_below_drewN | apply below_drew1) | exact HB.out)))); (case aL => have := LMc2.out; simp only [List.length_nil]; omega); intro v206 w5 ho hb hg hat; rw [List.nil_append] at ho; have n0_ := Aside0.mk (hb); have n1_ := Aside0.mk (ho); clear HB; clear HO204; have HB := n0_; have HO207 := n1_; clear n0_ n1_; clear ho hb hg hat))
      go_ret
      exact ⟨_, rfl, by (with_reducible repeat (first | apply Kd.R_alloc | apply Kd.R_drewN | apply Kd.R_drew)); exact HO207.out, by repeat (first | (with_reducible first | exact HB.out | apply below_alloc | apply pw_below_drewN | apply below_drew1) | exact HB.out)⟩
  · rw [if_neg c2] at h
    cases h

end Go.Proofs.Ytcibmpomidhgiaa.P
end M1
