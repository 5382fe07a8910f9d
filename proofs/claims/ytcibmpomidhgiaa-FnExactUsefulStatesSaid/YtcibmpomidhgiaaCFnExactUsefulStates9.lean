import Derived.ArgAppend
import Derived.Below
import Derived.BigQuiet
import Derived.Deep.AppendLies
import Derived.Deep.CutBlock
import Derived.Deep.DeepCutAuto
import Derived.Deep.Draws
import Derived.Deep.LoopGhost
import Derived.Deep.OwnRows
import Derived.Deep.QuietTactic
import Derived.Deep.RegionHeld3
import Derived.KernelRfl
import Derived.Laws.BitsLemmas
import Derived.Laws.BytesArg
import Derived.Laws.IdiomCopy
import Derived.Laws.MakeOwn
import Derived.Laws.OwnMore
import Derived.Laws.Rows
import Derived.Laws.Slices
import Derived.Laws.StructEq
import Derived.Lib.AppendStr
import Derived.Lib.ConvBytes
import Derived.Lib.SliceRun
import Derived.Maps.AppendAt
import Derived.OrdersHeld
import Derived.OwnWalk
import Derived.RowKit
import Derived.RowKit3
import Derived.Shelf.Abstract
import Derived.Tactics
import Derived.Test.YtcibmpomidhgiaaProg
import Derived.WalkKit
import Derived.WideLaws
import Derived.Test.YtcibmpomidhgiaaCFnExactUsefulStates2
import Derived.Test.YtcibmpomidhgiaaCFnExactUsefulStates5
import Derived.Test.YtcibmpomidhgiaaCFnExactUsefulStates7
section M0
namespace Go.Proofs.Ytcibmpomidhgiaa.P
open Go.RowKit Go.Proofs.Ytcibmpomidhgiaa.Sh Go.Proofs.YtcibmpomidhgiaaW.PrintWords Go.Proofs.YtcibmpomidhgiaaW.PrintLast Go.Proofs.YtcibmpomidhgiaaW.PrintMore
attribute [local go_sem] max2_int min2_int max_two min_two max_three min_three max_four min_four   -- for this text's walks alone
set_option linter.unusedVariables false
set_option linter.unusedSimpArgs false

/-! ### spec_l11Live: function 53 -/
mutual
def spec_l11Live.l0 : Nat → List Bool → Bool → Int → List (List Int) → List Bool → Option (List Bool)
 | 0, _, _, _, _, _ => none
 | k + 1, x3, x4, x410000, x410001, x410002 => if x4 = true then (spec_l11Live.l1 k x3 false 0 x410000 x410001 x410002) else (some x3)
def spec_l11Live.l1 : Nat → List Bool → Bool → Int → Int → List (List Int) → List Bool → Option (List Bool)
 | 0, _, _, _, _, _, _ => none
 | k + 1, x3, x4, x5, x410000, x410001, x410002 => if x5 < (x410001.length : Int) then (spec_l11Live.l2 k x3 x4 x5 0 x410000 x410001 x410002) else (spec_l11Live.l0 k x3 x4 x410000 x410001 x410002)
def spec_l11Live.l2 : Nat → List Bool → Bool → Int → Int → Int → List (List Int) → List Bool → Option (List Bool)
 | 0, _, _, _, _, _, _, _ => none
 | k + 1, x3, x4, x5, x6, x410000, x410001, x410002 => if 0 ≤ x5 then (if x5 < (x410001.length : Int) then (if x6 < ((rd_L1 x410001 x5).length : Int) then (if x5 < (x3.length : Int) then (spec_l11Live.j3 k x3 x4 x5 x6 (!(rdOf false x3 x5)) x410000 x410001 x410002) else (none)) else (spec_l11Live.j3 k x3 x4 x5 x6 false x410000 x410001 x410002)) else (none)) else (none)
def spec_l11Live.j3 : Nat → List Bool → Bool → Int → Int → Bool → Int → List (List Int) → List Bool → Option (List Bool)
 | 0, _, _, _, _, _, _, _, _ => none
 | k + 1, x3, x4, x5, x6, x34, x410000, x410001, x410002 => if x34 = true then (if 0 ≤ x5 then (if x5 < (x410001.length : Int) then (if 0 ≤ x6 then (if x6 < ((rd_L1 x410001 x5).length : Int) then (if (rd (rd_L1 x410001 x5) x6) ≥ 0 then (if 0 ≤ (rd (rd_L1 x410001 x5) x6) then (if (rd (rd_L1 x410001 x5) x6) < (x3.length : Int) then (if rdOf false x3 (rd (rd_L1 x410001 x5) x6) = true then (if x5 < (x3.length : Int) then (spec_l11Live.l2 k (x3.set (x5 : Int).toNat true) true x5 (wrap64 (x6 + 1)) x410000 x410001 x410002) else (none)) else (spec_l11Live.l2 k x3 x4 x5 (wrap64 (x6 + 1)) x410000 x410001 x410002)) else (none)) else (none)) else (spec_l11Live.l2 k x3 x4 x5 (wrap64 (x6 + 1)) x410000 x410001 x410002)) else (none)) else (none)) else (none)) else (none)) else (spec_l11Live.l1 k x3 x4 (wrap64 (x5 + 1)) x410000 x410001 x410002)
end
def spec_l11Live.f (k : Nat) (a0_0 : Int) (l0_1 : List (List Int)) (l0_2 : List Bool) : Option (List Bool) := (some (([] : List Bool) : List Bool)).bind fun y410 => (if y410.length + l0_2.length < 140737488355328 then (spec_l11Live.l0 k (y410 ++ l0_2) true a0_0 l0_1 l0_2) else (none))
theorem spec_l11Live.mono_l : ∀ k, (∀ y0 y1 y2 y3 y4, LeO (spec_l11Live.l0 k y0 y1 y2 y3 y4) (spec_l11Live.l0 (k + 1) y0 y1 y2 y3 y4)) ∧ (∀ y0 y1 y2 y3 y4 y5, LeO (spec_l11Live.l1 k y0 y1 y2 y3 y4 y5) (spec_l11Live.l1 (k + 1) y0 y1 y2 y3 y4 y5)) ∧ (∀ y0 y1 y2 y3 y4 y5 y6, LeO (spec_l11Live.l2 k y0 y1 y2 y3 y4 y5 y6) (spec_l11Live.l2 (k + 1) y0 y1 y2 y3 y4 y5 y6)) ∧ (∀ y0 y1 y2 y3 y4 y5 y6 y7, LeO (spec_l11Live.j3 k y0 y1 y2 y3 y4 y5 y6 y7) (spec_l11Live.j3 (k + 1) y0 y1 y2 y3 y4 y5 y6 y7))
 | 0 => ⟨fun _ _ _ _ _ r h => by simp [spec_l11Live.l0] at h, fun _ _ _ _ _ _ r h => by simp [spec_l11Live.l1] at h, fun _ _ _ _ _ _ _ r h => by simp [spec_l11Live.l2] at h, fun _ _ _ _ _ _ _ _ r h => by simp [spec_l11Live.j3] at h⟩
 | k + 1 => by
  obtain ⟨ih0, ih1, ih2, ih3⟩ := spec_l11Live.mono_l k
  refine ⟨?_, ?_, ?_, ?_⟩
  ·intro y0 y1 y2 y3 y4
   unfold spec_l11Live.l0
   repeat' first
   | (with_reducible exact ih0 _ _ _ _ _)
   | (with_reducible exact ih1 _ _ _ _ _ _)
   | (with_reducible exact ih2 _ _ _ _ _ _ _)
   | (with_reducible exact ih3 _ _ _ _ _ _ _ _)
   | (with_reducible exact LeO.refl _)
   | (with_reducible exact LeO.none _)
   | (with_reducible refine LeO.ite ?_ ?_)
   | (with_reducible refine LeO.bind ?_ (fun _ => ?_))
   | exact ih0 _ _ _ _ _
   | exact ih1 _ _ _ _ _ _
   | exact ih2 _ _ _ _ _ _ _
   | exact ih3 _ _ _ _ _ _ _ _
   | exact LeO.none _
   | refine LeO.ite ?_ ?_
   | refine LeO.bind ?_ (fun _ => ?_)
  ·intro y0 y1 y2 y3 y4 y5
   unfold spec_l11Live.l1
   repeat' first
   | (with_reducible exact ih0 _ _ _ _ _)
   | (with_reducible exact ih1 _ _ _ _ _ _)
   | (with_reducible exact ih2 _ _ _ _ _ _ _)
   | (with_reducible exact ih3 _ _ _ _ _ _ _ _)
   | (with_reducible exact LeO.refl _)
   | (with_reducible exact LeO.none _)
   | (with_reducible refine LeO.ite ?_ ?_)
   | (with_reducible refine LeO.bind ?_ (fun _ => ?_))
   | exact ih0 _ _ _ _ _
   | exact ih1 _ _ _ _ _ _
   | exact ih2 _ _ _ _ _ _ _
   | exact ih3 _ _ _ _ _ _ _ _
   | exact LeO.none _
   | refine LeO.ite ?_ ?_
   | refine LeO.bind ?_ (fun _ => ?_)
  ·intro y0 y1 y2 y3 y4 y5 y6
   unfold spec_l11Live.l2
   repeat' first
   | (with_reducible exact ih0 _ _ _ _ _)
   | (with_reducible exact ih1 _ _ _ _ _ _)
   | (with_reducible exact ih2 _ _ _ _ _ _ _)
   | (with_reducible exact ih3 _ _ _ _ _ _ _ _)
   | (with_reducible exact LeO.refl _)
   | (with_reducible exact LeO.none _)
   | (with_reducible refine LeO.ite ?_ ?_)
   | (with_reducible refine LeO.bind ?_ (fun _ => ?_))
   | exact ih0 _ _ _ _ _
   | exact ih1 _ _ _ _ _ _
   | exact ih2 _ _ _ _ _ _ _
   | exact ih3 _ _ _ _ _ _ _ _
   | exact LeO.none _
   | refine LeO.ite ?_ ?_
   | refine LeO.bind ?_ (fun _ => ?_)
  ·intro y0 y1 y2 y3 y4 y5 y6 y7
   unfold spec_l11Live.j3
   repeat' first
   | (with_reducible exact ih0 _ _ _ _ _)
   | (with_reducible exact ih1 _ _ _ _ _ _)
   | (with_reducible exact ih2 _ _ _ _ _ _ _)
   | (with_reducible exact ih3 _ _ _ _ _ _ _ _)
   | (with_reducible exact LeO.refl _)
   | (with_reducible exact LeO.none _)
   | (with_reducible refine LeO.ite ?_ ?_)
   | (with_reducible refine LeO.bind ?_ (fun _ => ?_))
   | exact ih0 _ _ _ _ _
   | exact ih1 _ _ _ _ _ _
   | exact ih2 _ _ _ _ _ _ _
   | exact ih3 _ _ _ _ _ _ _ _
   | exact LeO.none _
   | refine LeO.ite ?_ ?_
   | refine LeO.bind ?_ (fun _ => ?_)
theorem spec_l11Live.mono : ∀ a0 a1 a2 k, LeO (spec_l11Live.f k a0 a1 a2) (spec_l11Live.f (k + 1) a0 a1 a2) := by
 intro a0 a1 a2 k
 obtain ⟨ih0, ih1, ih2, ih3⟩ := spec_l11Live.mono_l k
 unfold spec_l11Live.f
 repeat' first
   | (with_reducible exact ih0 _ _ _ _ _)
   | (with_reducible exact ih1 _ _ _ _ _ _)
   | (with_reducible exact ih2 _ _ _ _ _ _ _)
   | (with_reducible exact ih3 _ _ _ _ _ _ _ _)
   | (with_reducible exact LeO.refl _)
   | (with_reducible exact LeO.none _)
   | (with_reducible refine LeO.ite ?_ ?_)
   | (with_reducible refine LeO.bind ?_ (fun _ => ?_))
   | exact ih0 _ _ _ _ _
   | exact ih1 _ _ _ _ _ _
   | exact ih2 _ _ _ _ _ _ _
   | exact ih3 _ _ _ _ _ _ _ _
   | exact LeO.none _
   | refine LeO.ite ?_ ?_
   | refine LeO.bind ?_ (fun _ => ?_)
set_option maxHeartbeats 8000000 in
set_option maxRecDepth 100000 in
theorem spec_l11Live.calls (k : Nat) (a0_0 : Int) (A0_1 : Option Addr) (c0_1 : Nat) (l0_1 : List (List Int)) (A0_2 : Option Addr) (c0_2 : Nat) (l0_2 : List Bool) (r : List Bool) (w : World) (hr0_1 : Kd.C (Kd.slice 2 (Kd.int .i64)) w A0_1 l0_1.length l0_1) (hc0_1 : l0_1.length ≤ c0_1) (hr0_2 : Kd.C Kd.bool w A0_2 l0_2.length l0_2) (hc0_2 : l0_2.length ≤ c0_2) (h : spec_l11Live.f k a0_0 l0_1 l0_2 = some r) :
  Calls Try.prog 53 #[.agg #[.int .i64 a0_0, .slice A0_1 l0_1.length c0_1, .slice A0_2 l0_2.length c0_2]] w fun e w' => ∃ v0_ : Value, e = .returned (v0_) ∧ Kd.R Kd.bool 4 w' w.heap.size (fun _ => True) v0_ r ∧ Below w.heap.size w w' := by
 have hu71 := Try.underlying71
 have HR0_1 := Aside0.mk hr0_1
 have HC0_1 := Aside0.mk hc0_1
 clear hr0_1 hc0_1
 have HR0_2 := Aside0.mk hr0_2
 have HC0_2 := Aside0.mk hc0_2
 clear hr0_2 hc0_2
 have HB := Aside0.mk (Below.refl w.heap.size w)
 have H : ((some (([] : List Bool) : List Bool)).bind fun y410 => (if y410.length + l0_2.length < 140737488355328 then (spec_l11Live.l0 k (y410 ++ l0_2) true a0_0 l0_1 l0_2) else (none))) = some r := h
 clear h
 obtain ⟨y410, hy410⟩ : ∃ y_ : List Bool, y_ = (([] : List Bool)) := ⟨_, rfl⟩
 replace H : (if y410.length + l0_2.length < 140737488355328 then (spec_l11Live.l0 k (y410 ++ l0_2) true a0_0 l0_1 l0_2) else (none)) = some r := by first | (rw [hy410]; with_reducible exact H) | (have H2_ := (Option.bind_some _ _).symm.trans H; rw [hy410]; with_reducible exact H2_) | (have H2_ := (Option.bind_some _ _).symm.trans H; with_reducible exact H2_) | with_reducible exact H | (rw [hy410]; exact H) | exact H
 have Ny410 := Aside0.mk hy410
 clear hy410
 by_cases c2 : y410.length + l0_2.length < 140737488355328
 ·rw [if_pos c2] at H
  have LMc2 := Aside0.mk c2
  clear c2
  obtain ⟨y413, hy413⟩ : ∃ y_ : List Bool, y_ = (y410 ++ l0_2) := ⟨_, rfl⟩
  replace H : (spec_l11Live.l0 k y413 true a0_0 l0_1 l0_2) = some r := by first | (rw [hy413]; with_reducible exact H) | (have H2_ := (Option.bind_some _ _).symm.trans H; rw [hy413]; with_reducible exact H2_) | (have H2_ := (Option.bind_some _ _).symm.trans H; with_reducible exact H2_) | with_reducible exact H | (rw [hy413]; exact H) | exact H
  have Ny413 := Aside0.mk hy413
  clear hy413
  have H' := Aside0.mk H
  clear H
  go_enter Try.func53, Try.ntmps53
  go_wp2_with (first | ((with_reducible refine gate_dst (N := 1) rfl ?_); refine boxS (N := 1) (cs := #[.int .i64 a0_0, .slice A0_1 l0_1.length c0_1, .slice A0_2 l0_2.length c0_2]) (t := 71) ?_; intro gb409 hg w3 hbox hb; have n0_ := Aside0.mk (below_step (bW) hb); have n1_ := Aside0.mk (hbox); have n2_ := geW (w := w) hg; have n3_ := geW (w := w) hg; clear HB; have HB := n0_; have BK409 := n1_; have GW409 := n2_; have GE409 := n3_; clear n0_ n1_ n2_ n3_; clear hb hbox hg) | ((with_reducible refine gate_dst (N := 8) rfl ?_); refine Kd.R_lit Kd.bool _ 4 ?hg (N := 8) ?hd (xs := ([] : List Bool)) (inner := []) (ok := fun _ => True) (okp := fun _ => True) ?hr ?hp (fun _ hk => hk) trivial (Below.refl _ _) (Nat.le_refl _) (by simp) ?_; (case hd => rfl); (case hg => rfl); (case hr => first | (go_simp; done) | (go_simp; rfl)); (case hp => exact (Reps.none _ _)); intro v411 w4 ho5 hb hg_ hnew_; clear hg_ hnew_; (first | rw [← Ny410.out] at ho5 | (simp only [Int.reduceToNat] at ho5; rw [← Ny410.out] at ho5)); have n0_ := Aside0.mk (Kd.R_lower ho5 (below_size (bW))); have n1_ := Aside0.mk (blkB BK409.out hb); have n2_ := Aside0.mk (below_step (bW) hb); clear BK409; clear HB; have HO412 := n0_; have BK409 := n1_; have HB := n2_; clear n0_ n1_ n2_; clear hb ho5; obtain ⟨hcz6_0, hcz6_1, hcz6_2⟩ := cells3 BK409.out; obtain ⟨hfz6_0, hfz6_1, hfz6_2⟩ := frz3 BK409.out) | ((with_reducible refine gate_builtin (b := .append) (xs := #[.tmp 8, .tmp 10]) rfl ?_); at_builtin; refine Kd.R_append_rows Kd.bool (w0 := w) w.heap.size rfl (.tmp 8) (.tmp 10) 61 4 (.bool false) 1 rfl Try.underlying61 info4 rfl (by decide) (by omega) v411 y410 l0_2 _ _ _ (fun _ => True) (fun _ => False) rfl rfl ?aO ?aR (fun _ _ h => h) (fun _ h => h.elim) ?aF ?aB ?aS ?aL ?_; (case aR => exact cP (Kd.C_below HR0_2.out HB.out)); (case aB => exact (bW)); (case aF => exact (fun _ _ => trivial)); (case aO => exact (rP HO412.out)); (case aS => exact (below_size (bW))); (case aL => have := LMc2.out; omega); intro v414 w7 ho hb hg hat; rw [← Ny413.out] at ho; have n0_ := Aside0.mk (blk_grown (g := gb409) (o := .cells #[.int .i64 a0_0, .slice A0_1 l0_1.length c0_1, .slice A0_2 l0_2.length c0_2] 71 (0, 0)) (bP BK409.out) hg (Kd.R_ne HO412.out BK409.out (by decide))); have n1_ := Aside0.mk (hb); have n2_ := Aside0.mk (ho); clear BK409; clear HB; clear HO412; have BK409 := n0_; have HB := n1_; have HO415 := n2_; clear n0_ n1_ n2_; clear ho hb hg hat))
  go_loopg [4] k (fun kq v4 w' => ∃ (x3_1 : List Bool) (x4_1 : Bool), v4 = .bool x4_1 ∧ Aside0 (spec_l11Live.l0 kq x3_1 x4_1 a0_0 l0_1 l0_2 = some r) ∧ Aside0 (kq ≤ k) ∧ Aside0 (Kd.R Kd.bool 4 w' w.heap.size (fun _ => True) v414 x3_1) ∧ Aside0 (w'.heap[gb409]? = some (.cells #[.int .i64 a0_0, (.slice A0_1 l0_1.length c0_1), (.slice A0_2 l0_2.length c0_2)] 71 (0, 0))) ∧ Aside0 (Below w.heap.size w w'))
  case atStart => exact ⟨(y413), (true), (eW), H', ⟨Nat.le_refl _⟩, ⟨(rP HO415.out)⟩, ⟨(bP BK409.out)⟩, ⟨bW⟩⟩
  case round =>
   clear H'
   try clear c2
   try clear p2
   try clear c5
   try clear hcz6_0
   try clear hcz6_1
   try clear hcz6_2
   try clear hfz6_0
   try clear hfz6_1
   try clear hfz6_2
   obtain ⟨x3_1, x4_1, rfl, HA, HK1, HO_3, BK409, HB⟩ := hrel
   cases gk with
   | zero => exact absurd HA.out (by simp [spec_l11Live.l0])
   | succ k1 =>
    have H := HA.out
    clear HA
    simp only [spec_l11Live.l0] at H
    by_cases c8 : x4_1 = true
    ·subst c8
     have H1 : (spec_l11Live.l1 k1 x3_1 false 0 a0_0 l0_1 l0_2) = some r := by rw [if_pos rfl] at H; exact H
     clear H
     have H := H1
     clear H1
     have H' := Aside0.mk H
     clear H
     go_wp2
     go_loopg [4, 5] k1 (fun kq v4 v5 w' => ∃ (x3_2 : List Bool) (x4_2 : Bool) (x5_2 : Int), v4 = .bool x4_2 ∧ v5 = .int .i64 x5_2 ∧ Aside0 (spec_l11Live.l1 kq x3_2 x4_2 x5_2 a0_0 l0_1 l0_2 = some r) ∧ Aside0 (kq ≤ k1) ∧ Aside0 (Kd.R Kd.bool 4 w' w.heap.size (fun _ => True) v414 x3_2) ∧ Aside0 (w'.heap[gb409]? = some (.cells #[.int .i64 a0_0, (.slice A0_1 l0_1.length c0_1), (.slice A0_2 l0_2.length c0_2)] 71 (0, 0))) ∧ Aside0 (Below w.heap.size w w'))
     case atStart => exact ⟨(x3_1), (false), (0), (eW), (eW), H', ⟨Nat.le_refl _⟩, ⟨(rP HO_3.out)⟩, ⟨(bP BK409.out)⟩, ⟨bW⟩⟩
     case round =>
      clear H'
      try clear c2
      try clear p2
      try clear c5
      try clear c8
      try clear hcz6_0
      try clear hcz6_1
      try clear hcz6_2
      try clear hfz6_0
      try clear hfz6_1
      try clear hfz6_2
      try clear p2
      obtain ⟨x3_2, x4_2, x5_2, rfl, rfl, HA, HK2, HO_3, BK409, HB⟩ := hrel
      cases gk with
      | zero => exact absurd HA.out (by simp [spec_l11Live.l1])
      | succ k2 =>
       have H := HA.out
       clear HA
       simp only [spec_l11Live.l1] at H
       by_cases c9 : x5_2 < (l0_1.length : Int)
       ·rw [if_pos c9] at H
        have c9b0 : decide (x5_2 < (l0_1.length : Int)) = true := decide_eq_true c9
        clear c9
        have H' := Aside0.mk H
        clear H
        have hcz10_0 : wr.cell? ⟨gb409, 0, none⟩ = some (.int .i64 a0_0) := (blk_cell BK409.out 0).trans rfl
        have hcz10_1 : wr.cell? ⟨gb409, 1, none⟩ = some (.slice A0_1 l0_1.length c0_1) := (blk_cell BK409.out 1).trans rfl
        have hcz10_2 : wr.cell? ⟨gb409, 2, none⟩ = some (.slice A0_2 l0_2.length c0_2) := (blk_cell BK409.out 2).trans rfl
        have hfz10_0 := blk_frozen BK409.out 0
        have hfz10_1 := blk_frozen BK409.out 1
        have hfz10_2 := blk_frozen BK409.out 2
        go_wp2
        go_loopg [4, 6] k2 (fun kq v4 v6 w' => ∃ (x3_3 : List Bool) (x4_3 : Bool) (x6_3 : Int), v4 = .bool x4_3 ∧ v6 = .int .i64 x6_3 ∧ Aside0 (spec_l11Live.l2 kq x3_3 x4_3 x5_2 x6_3 a0_0 l0_1 l0_2 = some r) ∧ Aside0 (kq ≤ k2) ∧ Aside0 (Kd.R Kd.bool 4 w' w.heap.size (fun _ => True) v414 x3_3) ∧ Aside0 (w'.heap[gb409]? = some (.cells #[.int .i64 a0_0, (.slice A0_1 l0_1.length c0_1), (.slice A0_2 l0_2.length c0_2)] 71 (0, 0))) ∧ Aside0 (Below w.heap.size w w'))
        case atStart => exact ⟨(x3_2), (x4_2), (0), (eW), (eW), H', ⟨Nat.le_refl _⟩, ⟨(rP HO_3.out)⟩, ⟨(bP BK409.out)⟩, ⟨bW⟩⟩
        case round =>
         clear H'
         try clear c2
         try clear p2
         try clear c5
         try clear c8
         try clear c9
         try clear c9b0
         try clear hcz10_0
         try clear hcz10_1
         try clear hcz10_2
         try clear hcz6_0
         try clear hcz6_1
         try clear hcz6_2
         try clear hfz10_0
         try clear hfz10_1
         try clear hfz10_2
         try clear hfz6_0
         try clear hfz6_1
         try clear hfz6_2
         try clear p2
         obtain ⟨x3_3, x4_3, x6_3, rfl, rfl, HA, HK3, HO_3, BK409, HB⟩ := hrel
         cases gk with
         | zero => exact absurd HA.out (by simp [spec_l11Live.l2])
         | succ k3 =>
          have H := HA.out
          clear HA
          simp only [spec_l11Live.l2] at H
          have HC11 := Aside0.mk H
          clear H
          go_upto_region 9 with (fail)
          go_cut [34] (fun v34 wc => ∃ (kq : Nat) (x34_10 : Bool), v34 = .bool x34_10 ∧ Aside0 (spec_l11Live.j3 kq x3_3 x4_3 x5_2 x6_3 x34_10 a0_0 l0_1 l0_2 = some r) ∧ Aside0 (kq ≤ k3) ∧ Aside0 (Kd.R Kd.bool 4 wc w.heap.size (fun _ => True) v414 x3_3) ∧ Aside0 (wc.heap[gb409]? = some (.cells #[.int .i64 a0_0, (.slice A0_1 l0_1.length c0_1), (.slice A0_2 l0_2.length c0_2)] 71 (0, 0))) ∧ Aside0 (Below w.heap.size w wc))
          case first =>
           have H := HC11.out
           clear HC11
           by_cases c12 : 0 ≤ x5_2
           ·rw [if_pos c12] at H
            have c12b0 : decide (0 ≤ x5_2) = true := decide_eq_true c12
            clear c12
            (first | rw [c12b0] | (simp only [i64_w, i32_w]; rw [c12b0]) | skip)
            by_cases c13 : x5_2 < (l0_1.length : Int)
            ·rw [if_pos c13] at H
             have c13b0 : decide (x5_2 < (l0_1.length : Int)) = true := decide_eq_true c13
             clear c13
             by_cases c14 : x6_3 < ((rd_L1 l0_1 x5_2).length : Int)
             ·rw [if_pos c14] at H
              have c14b0 : decide (x6_3 < ((rd_L1 l0_1 x5_2).length : Int)) = true := decide_eq_true c14
              clear c14
              by_cases c15 : x5_2 < (x3_3.length : Int)
              ·rw [if_pos c15] at H
               have c15b0 : decide (x5_2 < (x3_3.length : Int)) = true := decide_eq_true c15
               clear c15
               have H' := Aside0.mk H
               clear H
               have hcz16_0 : wr.cell? ⟨gb409, 0, none⟩ = some (.int .i64 a0_0) := (blk_cell BK409.out 0).trans rfl
               have hcz16_1 : wr.cell? ⟨gb409, 1, none⟩ = some (.slice A0_1 l0_1.length c0_1) := (blk_cell BK409.out 1).trans rfl
               have hcz16_2 : wr.cell? ⟨gb409, 2, none⟩ = some (.slice A0_2 l0_2.length c0_2) := (blk_cell BK409.out 2).trans rfl
               have hfz16_0 := blk_frozen BK409.out 0
               have hfz16_1 := blk_frozen BK409.out 1
               have hfz16_2 := blk_frozen BK409.out 2
               have p416 : 0 ≤ (x5_2 : Int) := ofD
               have q416 : x5_2 < (l0_1.length : Int) := ofD
               obtain ⟨ad416, A416_0, c416_0, e416, hx416_0, hl416_0, hi416_0⟩ := at_L1 HR0_1.out x5_2 p416 q416
               cases e416
               replace hx416_0 := (HB.out.cell (World.block_lt_of_cell? w _ hx416_0)).trans hx416_0
               have HR416_0 := Aside0.mk hi416_0
               have HC416_0 := Aside0.mk hl416_0
               clear hi416_0 hl416_0
               replace p416 := eq_true p416
               replace q416 := eq_true q416
               obtain ⟨Ao17, co17, eo17⟩ := Kd.R_slice HO_3.out
               subst eo17
               have p417 : 0 ≤ (x5_2 : Int) := ofD
               have q417 : x5_2 < (x3_3.length : Int) := ofD
               obtain ⟨ad417, e417, hx417_0⟩ := Kd.at_bool (Kd.R_reads' HO_3.out).2.2 x5_2 p417 q417
               cases e417
               replace p417 := eq_true p417
               replace q417 := eq_true q417
               go_wp2
               go_meet
               case rel => exact ⟨_, (!(rdOf false x3_3 x5_2)), (eW), H', ⟨by have := HK1.out; have := HK2.out; have := HK3.out; first | omega | exact Nat.le_refl _⟩, ⟨(rP HO_3.out)⟩, ⟨(bP BK409.out)⟩, ⟨bW⟩⟩
              ·rw [if_neg c15] at H
               exact absurd H (by simp)
             ·rw [if_neg c14] at H
              have c14b0 : decide (x6_3 < ((rd_L1 l0_1 x5_2).length : Int)) = false := decide_eq_false c14
              clear c14
              have H' := Aside0.mk H
              clear H
              have hcz18_0 : wr.cell? ⟨gb409, 0, none⟩ = some (.int .i64 a0_0) := (blk_cell BK409.out 0).trans rfl
              have hcz18_1 : wr.cell? ⟨gb409, 1, none⟩ = some (.slice A0_1 l0_1.length c0_1) := (blk_cell BK409.out 1).trans rfl
              have hcz18_2 : wr.cell? ⟨gb409, 2, none⟩ = some (.slice A0_2 l0_2.length c0_2) := (blk_cell BK409.out 2).trans rfl
              have hfz18_0 := blk_frozen BK409.out 0
              have hfz18_1 := blk_frozen BK409.out 1
              have hfz18_2 := blk_frozen BK409.out 2
              have p416 : 0 ≤ (x5_2 : Int) := ofD
              have q416 : x5_2 < (l0_1.length : Int) := ofD
              obtain ⟨ad416, A416_0, c416_0, e416, hx416_0, hl416_0, hi416_0⟩ := at_L1 HR0_1.out x5_2 p416 q416
              cases e416
              replace hx416_0 := (HB.out.cell (World.block_lt_of_cell? w _ hx416_0)).trans hx416_0
              have HR416_0 := Aside0.mk hi416_0
              have HC416_0 := Aside0.mk hl416_0
              clear hi416_0 hl416_0
              replace p416 := eq_true p416
              replace q416 := eq_true q416
              go_wp2
              go_meet
              case rel => exact ⟨_, (false), (eW), H', ⟨by have := HK1.out; have := HK2.out; have := HK3.out; first | omega | exact Nat.le_refl _⟩, ⟨(rP HO_3.out)⟩, ⟨(bP BK409.out)⟩, ⟨bW⟩⟩
            ·rw [if_neg c13] at H
             exact absurd H (by simp)
           ·rw [if_neg c12] at H
            exact absurd H (by simp)
          case rest =>
           clear HC11
           try clear c1
           try clear c2
           try clear p2
           try clear c4
           try clear p4
           try clear q4
           try clear hx4
           try clear c5
           try clear c8
           try clear c9
           try clear c9b0
           try clear c12
           try clear c12b0
           try clear c13
           try clear c13b0
           try clear c14
           try clear c14b0
           try clear c15
           try clear c15b0
           try clear hcz10_0
           try clear hcz10_1
           try clear hcz10_2
           try clear hcz16_0
           try clear hcz16_1
           try clear hcz16_2
           try clear hcz18_0
           try clear hcz18_1
           try clear hcz18_2
           try clear hcz6_0
           try clear hcz6_1
           try clear hcz6_2
           try clear hfz10_0
           try clear hfz10_1
           try clear hfz10_2
           try clear hfz16_0
           try clear hfz16_1
           try clear hfz16_2
           try clear hfz18_0
           try clear hfz18_1
           try clear hfz18_2
           try clear hfz6_0
           try clear hfz6_1
           try clear hfz6_2
           try clear hx416_0
           try clear hx417_0
           try clear p2
           try clear p416
           try clear p417
           try clear q416
           try clear q417
           obtain ⟨kq, x34_10, rfl, HA, HJ10, HO_3, BK409, HB⟩ := hcut
           cases kq with
           | zero => exact absurd HA.out (by simp [spec_l11Live.j3])
           | succ kj10 =>
            have H := HA.out
            clear HA
            simp only [spec_l11Live.j3] at H
            by_cases c19 : x34_10 = true
            ·subst c19
             have H1 : (if 0 ≤ x5_2 then (if x5_2 < (l0_1.length : Int) then (if 0 ≤ x6_3 then (if x6_3 < ((rd_L1 l0_1 x5_2).length : Int) then (if (rd (rd_L1 l0_1 x5_2) x6_3) ≥ 0 then (if 0 ≤ (rd (rd_L1 l0_1 x5_2) x6_3) then (if (rd (rd_L1 l0_1 x5_2) x6_3) < (x3_3.length : Int) then (if rdOf false x3_3 (rd (rd_L1 l0_1 x5_2) x6_3) = true then (if x5_2 < (x3_3.length : Int) then (spec_l11Live.l2 kj10 (x3_3.set (x5_2 : Int).toNat true) true x5_2 (wrap64 (x6_3 + 1)) a0_0 l0_1 l0_2) else (none)) else (spec_l11Live.l2 kj10 x3_3 x4_3 x5_2 (wrap64 (x6_3 + 1)) a0_0 l0_1 l0_2)) else (none)) else (none)) else (spec_l11Live.l2 kj10 x3_3 x4_3 x5_2 (wrap64 (x6_3 + 1)) a0_0 l0_1 l0_2)) else (none)) else (none)) else (none)) else (none)) = some r := by rw [if_pos rfl] at H; exact H
             clear H
             have H := H1
             clear H1
             by_cases c20 : 0 ≤ x5_2
             ·rw [if_pos c20] at H
              have c20b0 : decide (0 ≤ x5_2) = true := decide_eq_true c20
              clear c20
              by_cases c21 : x5_2 < (l0_1.length : Int)
              ·rw [if_pos c21] at H
               have c21b0 : decide (x5_2 < (l0_1.length : Int)) = true := decide_eq_true c21
               clear c21
               by_cases c22 : 0 ≤ x6_3
               ·rw [if_pos c22] at H
                have c22b0 : decide (0 ≤ x6_3) = true := decide_eq_true c22
                clear c22
                by_cases c23 : x6_3 < ((rd_L1 l0_1 x5_2).length : Int)
                ·rw [if_pos c23] at H
                 have c23b0 : decide (x6_3 < ((rd_L1 l0_1 x5_2).length : Int)) = true := decide_eq_true c23
                 clear c23
                 by_cases c24 : (rd (rd_L1 l0_1 x5_2) x6_3) ≥ 0
                 ·rw [if_pos c24] at H
                  have c24b0 : decide (0 ≤ (rd (rd_L1 l0_1 x5_2) x6_3)) = true := decide_eq_true c24
                  clear c24
                  by_cases c25 : 0 ≤ (rd (rd_L1 l0_1 x5_2) x6_3)
                  ·rw [if_pos c25] at H
                   have c25b0 : decide (0 ≤ (rd (rd_L1 l0_1 x5_2) x6_3)) = true := decide_eq_true c25
                   clear c25
                   by_cases c26 : (rd (rd_L1 l0_1 x5_2) x6_3) < (x3_3.length : Int)
                   ·rw [if_pos c26] at H
                    have c26b0 : decide ((rd (rd_L1 l0_1 x5_2) x6_3) < (x3_3.length : Int)) = true := decide_eq_true c26
                    clear c26
                    obtain ⟨bq27, hbq27⟩ : ∃ b_ : Bool, b_ = (rdOf false x3_3 (rd (rd_L1 l0_1 x5_2) x6_3)) := ⟨_, rfl⟩
                    replace H : (if bq27 = true then (if x5_2 < (x3_3.length : Int) then (spec_l11Live.l2 kj10 (x3_3.set (x5_2 : Int).toNat true) true x5_2 (wrap64 (x6_3 + 1)) a0_0 l0_1 l0_2) else (none)) else (spec_l11Live.l2 kj10 x3_3 x4_3 x5_2 (wrap64 (x6_3 + 1)) a0_0 l0_1 l0_2)) = some r := by rw [← hbq27] at H; exact H
                    have Nbq27 := Aside0.mk hbq27
                    clear hbq27
                    by_cases c28 : bq27 = true
                    ·subst c28
                     have H1 : (if x5_2 < (x3_3.length : Int) then (spec_l11Live.l2 kj10 (x3_3.set (x5_2 : Int).toNat true) true x5_2 (wrap64 (x6_3 + 1)) a0_0 l0_1 l0_2) else (none)) = some r := by rw [if_pos rfl] at H; exact H
                     clear H
                     have H := H1
                     clear H1
                     by_cases c29 : x5_2 < (x3_3.length : Int)
                     ·rw [if_pos c29] at H
                      have c29b0 : decide (x5_2 < (x3_3.length : Int)) = true := decide_eq_true c29
                      clear c29
                      obtain ⟨y421, hy421⟩ : ∃ y_ : List Bool, y_ = (x3_3.set (x5_2 : Int).toNat true) := ⟨_, rfl⟩
                      replace H : (spec_l11Live.l2 kj10 y421 true x5_2 (wrap64 (x6_3 + 1)) a0_0 l0_1 l0_2) = some r := by first | (rw [hy421]; with_reducible exact H) | (have H2_ := (Option.bind_some _ _).symm.trans H; rw [hy421]; with_reducible exact H2_) | (have H2_ := (Option.bind_some _ _).symm.trans H; with_reducible exact H2_) | with_reducible exact H | (rw [hy421]; exact H) | exact H
                      have Ny421 := Aside0.mk hy421
                      clear hy421
                      have H' := Aside0.mk H
                      clear H
                      have hcz31_0 : wc.cell? ⟨gb409, 0, none⟩ = some (.int .i64 a0_0) := (blk_cell BK409.out 0).trans rfl
                      have hcz31_1 : wc.cell? ⟨gb409, 1, none⟩ = some (.slice A0_1 l0_1.length c0_1) := (blk_cell BK409.out 1).trans rfl
                      have hcz31_2 : wc.cell? ⟨gb409, 2, none⟩ = some (.slice A0_2 l0_2.length c0_2) := (blk_cell BK409.out 2).trans rfl
                      have hfz31_0 := blk_frozen BK409.out 0
                      have hfz31_1 := blk_frozen BK409.out 1
                      have hfz31_2 := blk_frozen BK409.out 2
                      have p418 : 0 ≤ (x5_2 : Int) := ofD
                      have q418 : x5_2 < (l0_1.length : Int) := ofD
                      obtain ⟨ad418, A418_0, c418_0, e418, hx418_0, hl418_0, hi418_0⟩ := at_L1 HR0_1.out x5_2 p418 q418
                      cases e418
                      replace hx418_0 := (HB.out.cell (World.block_lt_of_cell? w _ hx418_0)).trans hx418_0
                      have HR418_0 := Aside0.mk hi418_0
                      have HC418_0 := Aside0.mk hl418_0
                      clear hi418_0 hl418_0
                      replace p418 := eq_true p418
                      replace q418 := eq_true q418
                      have p419 : 0 ≤ (x6_3 : Int) := ofD
                      have q419 : x6_3 < ((rd_L1 l0_1 x5_2).length : Int) := ofD
                      obtain ⟨ad419, e419, hx419_0⟩ := Kd.at_int HR418_0.out x6_3 p419 q419
                      cases e419
                      replace hx419_0 := (HB.out.cell (World.block_lt_of_cell? w _ hx419_0)).trans hx419_0
                      replace p419 := eq_true p419
                      replace q419 := eq_true q419
                      obtain ⟨Ao32, co32, eo32⟩ := Kd.R_slice HO_3.out
                      subst eo32
                      have p420 : 0 ≤ ((rd (rd_L1 l0_1 x5_2) x6_3) : Int) := ofD
                      have q420 : (rd (rd_L1 l0_1 x5_2) x6_3) < (x3_3.length : Int) := ofD
                      obtain ⟨ad420, e420, hx420_0⟩ := Kd.at_bool (Kd.R_reads' HO_3.out).2.2 (rd (rd_L1 l0_1 x5_2) x6_3) p420 q420
                      (try rw [← Nbq27.out] at hx420_0)
                      cases e420
                      replace p420 := eq_true p420
                      replace q420 := eq_true q420
                      have p30 : 0 ≤ (x5_2 : Int) := ofD
                      have q30 : (x5_2 : Int) < ((x3_3.length : Int) : Int) := ofD
                      obtain ⟨go30, co30, eo30, gb30, gl30, cl30, HG30⟩ := Kd.R_form HO_3.out (by omega)
                      (first | cases eo30 | (injection eo30 with ea_ en_ ec_; (first | subst ea_ | (injection ea_ with ea_; subst ea_)); subst ec_; clear en_))
                      have GB30 := Aside0.mk gb30
                      have GG30 := Aside0.mk HG30
                      clear gb30 gl30 HG30
                      (first | simp only [add_plain] at hx420_0 | skip)
                      obtain ⟨hx30_0, hf30_0⟩ := Kd.R_celln false HO_3.out (x5_2 : Int) p30 q30
                      replace p30 := eq_true p30
                      replace q30 := eq_true q30
                      have HP33 := Kd.R_putg HO_3.out (x5_2 : Int) true
                      go_wp2_with (first | ((with_reducible refine gate_store (t := 4) (p := 55) rfl ?_); refine storeS (t := 4) (p := 55) (w1 := (wc.setCell ⟨go30, (x5_2 : Int).toNat, none⟩ (.bool true))) ?_; intro w34 hw; have hg : wc.grownBy w34 (some go30) := (by rw [hw]; exact HP33.2); have hp_ : Kd.R Kd.bool 4 w34 w.heap.size (fun _ => True) (.slice (some ⟨go30, 0, none⟩) x3_3.length co32) y421 := (by rw [hw, Ny421.out]; exact HP33.1); clear HP33; have n0_ := Aside0.mk (hp_); have n1_ := Aside0.mk (blk_grown (g := gb409) (o := .cells #[.int .i64 a0_0, .slice (some ad418) l0_1.length c0_1, .slice A0_2 l0_2.length c0_2] 71 (0, 0)) (bP BK409.out) hg (Kd.R_ne HO_3.out BK409.out (by decide))); have n2_ := Aside0.mk ((by rw [hw]; exact below_set (HB.out) GB30.out : Below w.heap.size w w34)); clear HO_3; clear BK409; clear HB; have HO_3 := n0_; have BK409 := n1_; have HB := n2_; clear n0_ n1_ n2_; clear hg hw hp_))
                      go_roundg kj10
                      case measure => have := HK1.out; have := HK2.out; have := HK3.out; have := HJ10.out; omega
                      case rel => exact ⟨(y421), (true), (wrap64 (x6_3 + 1)), (eW), (eW), H', ⟨by have := HK1.out; have := HK2.out; have := HK3.out; have := HJ10.out; omega⟩, ⟨(rP HO_3.out)⟩, ⟨(bP BK409.out)⟩, ⟨bW⟩⟩
                     ·rw [if_neg c29] at H
                      exact absurd H (by simp)
                    ·replace c28 := Bool.eq_false_iff.mpr c28
                     subst c28
                     have H1 : (spec_l11Live.l2 kj10 x3_3 x4_3 x5_2 (wrap64 (x6_3 + 1)) a0_0 l0_1 l0_2) = some r := by rw [if_neg (show ¬ (false = true) by decide)] at H; exact H
                     clear H
                     have H := H1
                     clear H1
                     have H' := Aside0.mk H
                     clear H
                     have hcz35_0 : wc.cell? ⟨gb409, 0, none⟩ = some (.int .i64 a0_0) := (blk_cell BK409.out 0).trans rfl
                     have hcz35_1 : wc.cell? ⟨gb409, 1, none⟩ = some (.slice A0_1 l0_1.length c0_1) := (blk_cell BK409.out 1).trans rfl
                     have hcz35_2 : wc.cell? ⟨gb409, 2, none⟩ = some (.slice A0_2 l0_2.length c0_2) := (blk_cell BK409.out 2).trans rfl
                     have hfz35_0 := blk_frozen BK409.out 0
                     have hfz35_1 := blk_frozen BK409.out 1
                     have hfz35_2 := blk_frozen BK409.out 2
                     have p418 : 0 ≤ (x5_2 : Int) := ofD
                     have q418 : x5_2 < (l0_1.length : Int) := ofD
                     obtain ⟨ad418, A418_0, c418_0, e418, hx418_0, hl418_0, hi418_0⟩ := at_L1 HR0_1.out x5_2 p418 q418
                     cases e418
                     replace hx418_0 := (HB.out.cell (World.block_lt_of_cell? w _ hx418_0)).trans hx418_0
                     have HR418_0 := Aside0.mk hi418_0
                     have HC418_0 := Aside0.mk hl418_0
                     clear hi418_0 hl418_0
                     replace p418 := eq_true p418
                     replace q418 := eq_true q418
                     have p419 : 0 ≤ (x6_3 : Int) := ofD
                     have q419 : x6_3 < ((rd_L1 l0_1 x5_2).length : Int) := ofD
                     obtain ⟨ad419, e419, hx419_0⟩ := Kd.at_int HR418_0.out x6_3 p419 q419
                     cases e419
                     replace hx419_0 := (HB.out.cell (World.block_lt_of_cell? w _ hx419_0)).trans hx419_0
                     replace p419 := eq_true p419
                     replace q419 := eq_true q419
                     obtain ⟨Ao36, co36, eo36⟩ := Kd.R_slice HO_3.out
                     subst eo36
                     have p420 : 0 ≤ ((rd (rd_L1 l0_1 x5_2) x6_3) : Int) := ofD
                     have q420 : (rd (rd_L1 l0_1 x5_2) x6_3) < (x3_3.length : Int) := ofD
                     obtain ⟨ad420, e420, hx420_0⟩ := Kd.at_bool (Kd.R_reads' HO_3.out).2.2 (rd (rd_L1 l0_1 x5_2) x6_3) p420 q420
                     (try rw [← Nbq27.out] at hx420_0)
                     cases e420
                     replace p420 := eq_true p420
                     replace q420 := eq_true q420
                     go_wp2
                     go_roundg kj10
                     case measure => have := HK1.out; have := HK2.out; have := HK3.out; have := HJ10.out; omega
                     case rel => exact ⟨(x3_3), (x4_3), (wrap64 (x6_3 + 1)), (eW), (eW), H', ⟨by have := HK1.out; have := HK2.out; have := HK3.out; have := HJ10.out; omega⟩, ⟨(rP HO_3.out)⟩, ⟨(bP BK409.out)⟩, ⟨bW⟩⟩
                   ·rw [if_neg c26] at H
                    exact absurd H (by simp)
                  ·rw [if_neg c25] at H
                   exact absurd H (by simp)
                 ·rw [if_neg c24] at H
                  have c24b0 : decide (0 ≤ (rd (rd_L1 l0_1 x5_2) x6_3)) = false := decide_eq_false c24
                  clear c24
                  have H' := Aside0.mk H
                  clear H
                  have hcz37_0 : wc.cell? ⟨gb409, 0, none⟩ = some (.int .i64 a0_0) := (blk_cell BK409.out 0).trans rfl
                  have hcz37_1 : wc.cell? ⟨gb409, 1, none⟩ = some (.slice A0_1 l0_1.length c0_1) := (blk_cell BK409.out 1).trans rfl
                  have hcz37_2 : wc.cell? ⟨gb409, 2, none⟩ = some (.slice A0_2 l0_2.length c0_2) := (blk_cell BK409.out 2).trans rfl
                  have hfz37_0 := blk_frozen BK409.out 0
                  have hfz37_1 := blk_frozen BK409.out 1
                  have hfz37_2 := blk_frozen BK409.out 2
                  have p418 : 0 ≤ (x5_2 : Int) := ofD
                  have q418 : x5_2 < (l0_1.length : Int) := ofD
                  obtain ⟨ad418, A418_0, c418_0, e418, hx418_0, hl418_0, hi418_0⟩ := at_L1 HR0_1.out x5_2 p418 q418
                  cases e418
                  replace hx418_0 := (HB.out.cell (World.block_lt_of_cell? w _ hx418_0)).trans hx418_0
                  have HR418_0 := Aside0.mk hi418_0
                  have HC418_0 := Aside0.mk hl418_0
                  clear hi418_0 hl418_0
                  replace p418 := eq_true p418
                  replace q418 := eq_true q418
                  have p419 : 0 ≤ (x6_3 : Int) := ofD
                  have q419 : x6_3 < ((rd_L1 l0_1 x5_2).length : Int) := ofD
                  obtain ⟨ad419, e419, hx419_0⟩ := Kd.at_int HR418_0.out x6_3 p419 q419
                  cases e419
                  replace hx419_0 := (HB.out.cell (World.block_lt_of_cell? w _ hx419_0)).trans hx419_0
                  replace p419 := eq_true p419
                  replace q419 := eq_true q419
                  go_wp2
                  go_roundg kj10
                  case measure => have := HK1.out; have := HK2.out; have := HK3.out; have := HJ10.out; omega
                  case rel => exact ⟨(x3_3), (x4_3), (wrap64 (x6_3 + 1)), (eW), (eW), H', ⟨by have := HK1.out; have := HK2.out; have := HK3.out; have := HJ10.out; omega⟩, ⟨(rP HO_3.out)⟩, ⟨(bP BK409.out)⟩, ⟨bW⟩⟩
                ·rw [if_neg c23] at H
                 exact absurd H (by simp)
               ·rw [if_neg c22] at H
                exact absurd H (by simp)
              ·rw [if_neg c21] at H
               exact absurd H (by simp)
             ·rw [if_neg c20] at H
              exact absurd H (by simp)
            ·replace c19 := Bool.eq_false_iff.mpr c19
             subst c19
             have H1 : (spec_l11Live.l1 kj10 x3_3 x4_3 (wrap64 (x5_2 + 1)) a0_0 l0_1 l0_2) = some r := by rw [if_neg (show ¬ (false = true) by decide)] at H; exact H
             clear H
             have H := H1
             clear H1
             have H' := Aside0.mk H
             clear H
             go_wp2
             go_roundg kj10
             case measure => have := HK1.out; have := HK2.out; have := HK3.out; have := HJ10.out; omega
             case rel => exact ⟨(x3_3), (x4_3), (wrap64 (x5_2 + 1)), (eW), (eW), H', ⟨by have := HK1.out; have := HK2.out; have := HK3.out; have := HJ10.out; omega⟩, ⟨(rP HO_3.out)⟩, ⟨(bP BK409.out)⟩, ⟨bW⟩⟩
       ·rw [if_neg c9] at H
        have c9b0 : decide (x5_2 < (l0_1.length : Int)) = false := decide_eq_false c9
        clear c9
        have H' := Aside0.mk H
        clear H
        have hcz38_0 : wr.cell? ⟨gb409, 0, none⟩ = some (.int .i64 a0_0) := (blk_cell BK409.out 0).trans rfl
        have hcz38_1 : wr.cell? ⟨gb409, 1, none⟩ = some (.slice A0_1 l0_1.length c0_1) := (blk_cell BK409.out 1).trans rfl
        have hcz38_2 : wr.cell? ⟨gb409, 2, none⟩ = some (.slice A0_2 l0_2.length c0_2) := (blk_cell BK409.out 2).trans rfl
        have hfz38_0 := blk_frozen BK409.out 0
        have hfz38_1 := blk_frozen BK409.out 1
        have hfz38_2 := blk_frozen BK409.out 2
        go_wp2
        go_roundg k2
        case measure => have := HK1.out; have := HK2.out; omega
        case rel => exact ⟨(x3_2), (x4_2), (eW), H', ⟨by have := HK1.out; have := HK2.out; omega⟩, ⟨(rP HO_3.out)⟩, ⟨(bP BK409.out)⟩, ⟨bW⟩⟩
    ·replace c8 := Bool.eq_false_iff.mpr c8
     subst c8
     have H1 : (some x3_1) = some r := by rw [if_neg (show ¬ (false = true) by decide)] at H; exact H
     clear H
     have H := H1
     clear H1
     obtain rfl := Option.some.inj H
     go_wp2
     go_ret
     exact ⟨_, eW, (rP HO_3.out), bW⟩
 ·rw [if_neg c2] at H
  exact absurd H (by simp)

/-! ### spec_l11Turn: function 55 -/
def spec_l11Turn.f (a0_0 : Int) (a0_1 : Int) (a0_2 : Int) (l0_3 : List (List Int)) (a1 : Int) : Option (Int) := if a1 = 0 then (some a0_1) else (if a1 = a0_1 then (some 0) else (some a1))
set_option maxHeartbeats 8000000 in
set_option maxRecDepth 100000 in
theorem spec_l11Turn.calls (a0_0 : Int) (a0_1 : Int) (a0_2 : Int) (A0_3 : Option Addr) (c0_3 : Nat) (l0_3 : List (List Int)) (a1 : Int) (r : Int) (w : World) (hr0_3 : Kd.C (Kd.slice 2 (Kd.int .i64)) w A0_3 l0_3.length l0_3) (hc0_3 : l0_3.length ≤ c0_3) (h : spec_l11Turn.f a0_0 a0_1 a0_2 l0_3 a1 = some r) :
  Calls Try.prog 55 #[.agg #[.int .i64 a0_0, .int .i64 a0_1, .int .i64 a0_2, .slice A0_3 l0_3.length c0_3], .int .i64 a1] w fun e w' => e = .returned (.int .i64 r) ∧ Below w.heap.size w w' := by
 have hu38 := Try.underlying38
 have HR0_3 := Aside0.mk hr0_3
 have HC0_3 := Aside0.mk hc0_3
 clear hr0_3 hc0_3
 have HB := Aside0.mk (Below.refl w.heap.size w)
 have H : (if a1 = 0 then (some a0_1) else (if a1 = a0_1 then (some 0) else (some a1))) = some r := h
 clear h
 by_cases c3 : a1 = 0
 ·rw [if_pos c3] at H
  have c3b0 : (a1 == 0) = true := beq_iff_eq.mpr c3
  have c3b1 : (a1 != 0) = false := bne_eq_false_iff_eq.mpr c3
  clear c3
  obtain rfl := Option.some.inj H
  go_enter Try.func55, Try.ntmps55
  go_wp2_with (first | ((with_reducible refine gate_dst (N := 2) rfl ?_); refine boxS (N := 2) (cs := #[.int .i64 a0_0, .int .i64 a0_1, .int .i64 a0_2, .slice A0_3 l0_3.length c0_3]) (t := 38) ?_; intro gb422 hg w4 hbox hb; have n0_ := Aside0.mk (below_step (bW) hb); have n1_ := Aside0.mk (hbox); have n2_ := geW (w := w) hg; have n3_ := geW (w := w) hg; clear HB; have HB := n0_; have BK422 := n1_; have GW422 := n2_; have GE422 := n3_; clear n0_ n1_ n2_ n3_; clear hb hbox hg; obtain ⟨hcz5_0, hcz5_1, hcz5_2, hcz5_3⟩ := cells4 BK422.out; obtain ⟨hfz5_0, hfz5_1, hfz5_2, hfz5_3⟩ := frz4 BK422.out))
  go_ret
  exact ⟨eW, bW⟩
 ·rw [if_neg c3] at H
  have c3b0 : (a1 == 0) = false := beq_eq_false_iff_ne.mpr c3
  have c3b1 : (a1 != 0) = true := bne_iff_ne.mpr c3
  by_cases c6 : a1 = a0_1
  ·rw [if_pos c6] at H
   have c6b0 : (a1 == a0_1) = true := beq_iff_eq.mpr c6
   have c6b1 : (a1 != a0_1) = false := bne_eq_false_iff_eq.mpr c6
   clear c6
   obtain rfl := Option.some.inj H
   go_enter Try.func55, Try.ntmps55
   go_wp2_with (first | ((with_reducible refine gate_dst (N := 2) rfl ?_); refine boxS (N := 2) (cs := #[.int .i64 a0_0, .int .i64 a0_1, .int .i64 a0_2, .slice A0_3 l0_3.length c0_3]) (t := 38) ?_; intro gb422 hg w7 hbox hb; have n0_ := Aside0.mk (below_step (bW) hb); have n1_ := Aside0.mk (hbox); have n2_ := geW (w := w) hg; have n3_ := geW (w := w) hg; clear HB; have HB := n0_; have BK422 := n1_; have GW422 := n2_; have GE422 := n3_; clear n0_ n1_ n2_ n3_; clear hb hbox hg; obtain ⟨hcz8_0, hcz8_1, hcz8_2, hcz8_3⟩ := cells4 BK422.out; obtain ⟨hfz8_0, hfz8_1, hfz8_2, hfz8_3⟩ := frz4 BK422.out))
   go_ret
   exact ⟨eW, bW⟩
  ·rw [if_neg c6] at H
   have c6b0 : (a1 == a0_1) = false := beq_eq_false_iff_ne.mpr c6
   have c6b1 : (a1 != a0_1) = true := bne_iff_ne.mpr c6
   obtain rfl := Option.some.inj H
   go_enter Try.func55, Try.ntmps55
   go_wp2_with (first | ((with_reducible refine gate_dst (N := 2) rfl ?_); refine boxS (N := 2) (cs := #[.int .i64 a0_0, .int .i64 a0_1, .int .i64 a0_2, .slice A0_3 l0_3.length c0_3]) (t := 38) ?_; intro gb422 hg w9 hbox hb; have n0_ := Aside0.mk (below_step (bW) hb); have n1_ := Aside0.mk (hbox); have n2_ := geW (w := w) hg; have n3_ := geW (w := w) hg; clear HB; have HB := n0_; have BK422 := n1_; have GW422 := n2_; have GE422 := n3_; clear n0_ n1_ n2_ n3_; clear hb hbox hg; obtain ⟨hcz10_0, hcz10_1, hcz10_2, hcz10_3⟩ := cells4 BK422.out; obtain ⟨hfz10_0, hfz10_1, hfz10_2, hfz10_3⟩ := frz4 BK422.out))
   go_ret
   exact ⟨eW, bW⟩

end Go.Proofs.Ytcibmpomidhgiaa.P
end M0
section M1
namespace Go.Proofs.Ytcibmpomidhgiaa.P
open Go.RowKit Go.Proofs.Ytcibmpomidhgiaa.Sh Go.Proofs.YtcibmpomidhgiaaW.PrintWords Go.Proofs.YtcibmpomidhgiaaW.PrintLast Go.Proofs.YtcibmpomidhgiaaW.PrintMore
attribute [local go_sem] max2_int min2_int max_two min_two max_three min_three max_four min_four   -- for this text's walks alone
set_option linter.unusedVariables false
set_option linter.unusedSimpArgs false

/-! ### spec_l11Free: function 54 -/
mutual
def spec_l11Free.l0 : Nat → Int → Int → Int → Int → List (List Int) → Int → List (List Int) → List Bool → Option (Int × (List (List Int)) × List Bool)
 | 0, _, _, _, _, _, _, _, _ => none
 | k + 1, x4, x424000, x424001, x424002, x424003, x426000, x426001, x426002 => (spec_l11States.f x424000 x424001 x424002 x424003).bind fun t426 => (if x4 < t426 then ((spec_l11Turn.f x424000 x424001 x424002 x424003 x4).bind fun t427 => (spec_l11Free.l1 k x4 t427 (([] : List Int)) 0 x424000 x424001 x424002 x424003 x426000 x426001 x426002)) else (some (x426000, x426001, x426002)))
def spec_l11Free.l1 : Nat → Int → Int → List Int → Int → Int → Int → Int → List (List Int) → Int → List (List Int) → List Bool → Option (Int × (List (List Int)) × List Bool)
 | 0, _, _, _, _, _, _, _, _, _, _, _ => none
 | k + 1, x4, x5, x6, x7, x424000, x424001, x424002, x424003, x426000, x426001, x426002 => if x7 < x424000 then (if 0 ≤ x5 then (if x5 < (x424003.length : Int) then (if 0 ≤ x7 then (if x7 < ((rd_L1 x424003 x5).length : Int) then ((spec_l11Turn.f x424000 x424001 x424002 x424003 (rd (rd_L1 x424003 x5) x7)).bind fun t433 => (if x6.length < 17592186044416 then (spec_l11Free.l1 k x4 x5 (x6 ++ [t433]) (wrap64 (x7 + 1)) x424000 x424001 x424002 x424003 x426000 x426001 x426002) else (none))) else (none)) else (none)) else (none)) else (none)) else (if x426001.length < 5864062014805 then ((spec_l01Bit.f x424002 x5).bind fun t440 => (if x426002.length < 140737488355328 then (spec_l11Free.l0 k (wrap64 (x4 + 1)) x424000 x424001 x424002 x424003 x426000 (x426001 ++ [x6]) (x426002 ++ [t440])) else (none))) else (none))
end
def spec_l11Free.f (k : Nat) (a0_0 : Int) (a0_1 : Int) (a0_2 : Int) (l0_3 : List (List Int)) : Option (Int × (List (List Int)) × List Bool) := spec_l11Free.l0 k 0 a0_0 a0_1 a0_2 l0_3 a0_0 ([] : List (List Int)) ([] : List Bool)
theorem spec_l11Free.mono_l : ∀ k, (∀ y0 y1 y2 y3 y4 y5 y6 y7, LeO (spec_l11Free.l0 k y0 y1 y2 y3 y4 y5 y6 y7) (spec_l11Free.l0 (k + 1) y0 y1 y2 y3 y4 y5 y6 y7)) ∧ (∀ y0 y1 y2 y3 y4 y5 y6 y7 y8 y9 y10, LeO (spec_l11Free.l1 k y0 y1 y2 y3 y4 y5 y6 y7 y8 y9 y10) (spec_l11Free.l1 (k + 1) y0 y1 y2 y3 y4 y5 y6 y7 y8 y9 y10))
 | 0 => ⟨fun _ _ _ _ _ _ _ _ r h => by simp [spec_l11Free.l0] at h, fun _ _ _ _ _ _ _ _ _ _ _ r h => by simp [spec_l11Free.l1] at h⟩
 | k + 1 => by
  obtain ⟨ih0, ih1⟩ := spec_l11Free.mono_l k
  refine ⟨?_, ?_⟩
  ·intro y0 y1 y2 y3 y4 y5 y6 y7
   unfold spec_l11Free.l0
   repeat' first
   | (with_reducible exact ih0 _ _ _ _ _ _ _ _)
   | (with_reducible exact ih1 _ _ _ _ _ _ _ _ _ _ _)
   | (with_reducible exact LeO.refl _)
   | (with_reducible exact LeO.none _)
   | (with_reducible refine LeO.ite ?_ ?_)
   | (with_reducible refine LeO.bind ?_ (fun _ => ?_))
   | exact ih0 _ _ _ _ _ _ _ _
   | exact ih1 _ _ _ _ _ _ _ _ _ _ _
   | exact LeO.none _
   | refine LeO.ite ?_ ?_
   | refine LeO.bind ?_ (fun _ => ?_)
  ·intro y0 y1 y2 y3 y4 y5 y6 y7 y8 y9 y10
   unfold spec_l11Free.l1
   repeat' first
   | (with_reducible exact ih0 _ _ _ _ _ _ _ _)
   | (with_reducible exact ih1 _ _ _ _ _ _ _ _ _ _ _)
   | (with_reducible exact LeO.refl _)
   | (with_reducible exact LeO.none _)
   | (with_reducible refine LeO.ite ?_ ?_)
   | (with_reducible refine LeO.bind ?_ (fun _ => ?_))
   | exact ih0 _ _ _ _ _ _ _ _
   | exact ih1 _ _ _ _ _ _ _ _ _ _ _
   | exact LeO.none _
   | refine LeO.ite ?_ ?_
   | refine LeO.bind ?_ (fun _ => ?_)
theorem spec_l11Free.mono : ∀ a0 a1 a2 a3 k, LeO (spec_l11Free.f k a0 a1 a2 a3) (spec_l11Free.f (k + 1) a0 a1 a2 a3) := by
 intro a0 a1 a2 a3 k
 obtain ⟨ih0, ih1⟩ := spec_l11Free.mono_l k
 unfold spec_l11Free.f
 repeat' first
   | (with_reducible exact ih0 _ _ _ _ _ _ _ _)
   | (with_reducible exact ih1 _ _ _ _ _ _ _ _ _ _ _)
   | (with_reducible exact LeO.refl _)
   | (with_reducible exact LeO.none _)
   | (with_reducible refine LeO.ite ?_ ?_)
   | (with_reducible refine LeO.bind ?_ (fun _ => ?_))
   | exact ih0 _ _ _ _ _ _ _ _
   | exact ih1 _ _ _ _ _ _ _ _ _ _ _
   | exact LeO.none _
   | refine LeO.ite ?_ ?_
   | refine LeO.bind ?_ (fun _ => ?_)
def spec_l11Free.T10 : Bool × List (List Nat × List Nat) := (true, [([], []), ([], []), ([], []), ([2], [2]), ([], []), ([3, 4], [3, 4]), ([5], [5]), ([], []), ([6, 7], [6, 7]), ([8], [8]), ([1, 9], [1, 9]), ([10], [10]), ([0, 11, 10], [0, 11]), ([12, 12, 0, 1, 2, 3, 4, 5, 6, 7, 8, 9, 10, 11, 12], [0, 12])])
def spec_l11Free.B10 : List Nat := [0, 0, 0, 4, 0, 28, 60, 0, 252, 508, 1022, 2046, 4095, 8191]
theorem spec_l11Free.tab10 : rtab .any (opsOf Try.f54 10) = spec_l11Free.T10 := by kernel_rfl
theorem spec_l11Free.bits10 : waitsOk spec_l11Free.T10.2 spec_l11Free.B10 = true := by kernel_rfl
def spec_l11Free.T12 : Bool × List (List Nat × List Nat) := (true, [([], []), ([0], [0]), ([], []), ([2], [2]), ([], []), ([3, 4], [3, 4]), ([5], [5]), ([1, 6, 5], [1, 6]), ([0, 1, 2, 3, 4, 5, 6, 7], []), ([8, 7, 7, 0, 1, 2, 3, 4, 5, 6, 7], [7, 8])])
def spec_l11Free.B12 : List Nat := [0, 1, 0, 4, 0, 28, 60, 127, 255, 511]
theorem spec_l11Free.tab12 : rtab .any (opsOf Try.f54 12) = spec_l11Free.T12 := by kernel_rfl
theorem spec_l11Free.bits12 : waitsOk spec_l11Free.T12.2 spec_l11Free.B12 = true := by kernel_rfl
set_option maxHeartbeats 8000000 in
set_option maxRecDepth 100000 in
theorem spec_l11Free.calls (k : Nat) (a0_0 : Int) (a0_1 : Int) (a0_2 : Int) (A0_3 : Option Addr) (c0_3 : Nat) (l0_3 : List (List Int)) (r1 : Int) (r2 : List (List Int)) (r3 : List Bool) (w : World) (hr0_3 : Kd.C (Kd.slice 2 (Kd.int .i64)) w A0_3 l0_3.length l0_3) (hc0_3 : l0_3.length ≤ c0_3) (h : spec_l11Free.f k a0_0 a0_1 a0_2 l0_3 = some (r1, r2, r3)) :
  Calls Try.prog 54 #[.agg #[.int .i64 a0_0, .int .i64 a0_1, .int .i64 a0_2, .slice A0_3 l0_3.length c0_3]] w fun e w' => ∃ v1_ v2_ : Value, e = .returned (.agg #[.int .i64 r1, v1_, v2_]) ∧ Kd.S (Kd.slice 2 (Kd.int .i64)) 22 w' w.heap.size (fun _ => True) v1_ r2 ∧ Kd.R Kd.bool 4 w' w.heap.size (fun _ => True) v2_ r3 ∧ Below w.heap.size w w' := by
 have hu38 := Try.underlying38
 have hu71 := Try.underlying71
 have HR0_3 := Aside0.mk hr0_3
 have HC0_3 := Aside0.mk hc0_3
 clear hr0_3 hc0_3
 have HB := Aside0.mk (Below.refl w.heap.size w)
 have H : (spec_l11Free.l0 k 0 a0_0 a0_1 a0_2 l0_3 a0_0 ([] : List (List Int)) ([] : List Bool)) = some (r1, r2, r3) := h
 clear h
 have H' := Aside0.mk H
 clear H
 go_enter Try.func54, Try.ntmps54
 go_wp2_with (first | ((with_reducible refine gate_dst (N := 1) rfl ?_); refine boxS (N := 1) (cs := #[.int .i64 a0_0, .int .i64 a0_1, .int .i64 a0_2, .slice A0_3 l0_3.length c0_3]) (t := 38) ?_; intro gb423 hg w2 hbox hb; have n0_ := Aside0.mk (below_step (bW) hb); have n1_ := Aside0.mk (hbox); have n2_ := geW (w := w) hg; have n3_ := geW (w := w) hg; clear HB; have HB := n0_; have BK423 := n1_; have GW423 := n2_; have GE423 := n3_; clear n0_ n1_ n2_ n3_; clear hb hbox hg) | ((with_reducible refine gate_dst (N := 2) rfl ?_); refine boxS (N := 2) (cs := #[.int .i64 0, .slice none 0 0, .slice none 0 0]) (t := 71) ?_; intro gb424 hg w3 hbox hb; have n0_ := Aside0.mk (blkB BK423.out hb); have n1_ := Aside0.mk (below_step (bW) hb); have n2_ := Aside0.mk (hbox); have n3_ := geW (w := w) hg; have n4_ := geW (w := w) hg; have n5_ := Aside0.mk ((by rw [hg]; exact Nat.ne_of_lt (blk_lt (g := gb423) (o := .cells #[.int .i64 a0_0, .int .i64 a0_1, .int .i64 a0_2, .slice A0_3 l0_3.length c0_3] 38 (0, 0)) (bP BK423.out)) : gb423 ≠ gb424)); have n6_ := Aside0.mk ((by rw [hg]; exact Nat.ne_of_gt (blk_lt (g := gb423) (o := .cells #[.int .i64 a0_0, .int .i64 a0_1, .int .i64 a0_2, .slice A0_3 l0_3.length c0_3] 38 (0, 0)) (bP BK423.out)) : gb424 ≠ gb423)); clear BK423; clear HB; have BK423 := n0_; have HB := n1_; have BK424 := n2_; have GW424 := n3_; have GE424 := n4_; have NB423_424 := n5_; have NB424_423 := n6_; clear n0_ n1_ n2_ n3_ n4_ n5_ n6_; clear hb hbox hg; have hnb4 := NB423_424.out; have hnc4 := NB424_423.out; obtain ⟨hcz5_0, hcz5_1, hcz5_2, hcz5_3⟩ := cells4 BK423.out; obtain ⟨hfz5_0, hfz5_1, hfz5_2, hfz5_3⟩ := frz4 BK423.out) | ((with_reducible refine gate_dst (N := 3) rfl ?_); refine boxS (N := 3) (cs := #[.int .i64 0, .slice none 0 0, .slice none 0 0]) (t := 71) ?_; intro gb425 hg w6 hbox hb; have n0_ := Aside0.mk (blkB BK423.out hb); have n1_ := Aside0.mk (blkB BK424.out hb); have n2_ := Aside0.mk (below_step (bW) hb); have n3_ := Aside0.mk (hbox); have n4_ := geW (w := w) hg; have n5_ := geW (w := w) hg; have n6_ := Aside0.mk ((by rw [hg]; exact Nat.ne_of_lt (blk_lt (g := gb423) (o := .cells #[.int .i64 a0_0, .int .i64 a0_1, .int .i64 a0_2, .slice A0_3 l0_3.length c0_3] 38 (0, 0)) (bP BK423.out)) : gb423 ≠ gb425)); have n7_ := Aside0.mk ((by rw [hg]; exact Nat.ne_of_gt (blk_lt (g := gb423) (o := .cells #[.int .i64 a0_0, .int .i64 a0_1, .int .i64 a0_2, .slice A0_3 l0_3.length c0_3] 38 (0, 0)) (bP BK423.out)) : gb425 ≠ gb423)); have n8_ := Aside0.mk ((by rw [hg]; exact Nat.ne_of_lt (blk_lt (g := gb424) (o := .cells #[.int .i64 0, .slice none 0 0, .slice none 0 0] 71 (0, 0)) (bP BK424.out)) : gb424 ≠ gb425)); have n9_ := Aside0.mk ((by rw [hg]; exact Nat.ne_of_gt (blk_lt (g := gb424) (o := .cells #[.int .i64 0, .slice none 0 0, .slice none 0 0] 71 (0, 0)) (bP BK424.out)) : gb425 ≠ gb424)); clear BK423; clear BK424; clear HB; have BK423 := n0_; have BK424 := n1_; have HB := n2_; have BK425 := n3_; have GW425 := n4_; have GE425 := n5_; have NB423_425 := n6_; have NB425_423 := n7_; have NB424_425 := n8_; have NB425_424 := n9_; clear n0_ n1_ n2_ n3_ n4_ n5_ n6_ n7_ n8_ n9_; clear hb hbox hg; have hnb7 := NB425_423.out; have hnc7 := NB423_425.out; have hnb8 := NB425_424.out; have hnc8 := NB424_425.out; obtain ⟨hcz9_0, hcz9_1, hcz9_2⟩ := cells3 BK425.out; obtain ⟨hfz9_0, hfz9_1, hfz9_2⟩ := frz3 BK425.out))
 go_loopg [4] k (fun kq v4 w' => ∃ (x4_1 : Int) (x426001_1 : List (List Int)) (x426002_1 : List Bool) (u426001 : Value) (u426002 : Value), v4 = .int .i64 x4_1 ∧ Aside0 (spec_l11Free.l0 kq x4_1 a0_0 a0_1 a0_2 l0_3 a0_0 x426001_1 x426002_1 = some (r1, r2, r3)) ∧ Aside0 (kq ≤ k) ∧ Aside0 (Kd.S (Kd.slice 2 (Kd.int .i64)) 22 w' w.heap.size (fun _ => True) u426001 x426001_1) ∧ Aside0 (Kd.R Kd.bool 4 w' w.heap.size (fun _ => True) u426002 x426002_1) ∧ Aside0 (w'.heap[gb423]? = some (.cells #[.int .i64 a0_0, .int .i64 a0_1, .int .i64 a0_2, (.slice A0_3 l0_3.length c0_3)] 38 (0, 0))) ∧ Aside0 (w'.heap[gb424]? = some (.cells #[.int .i64 0, (.slice none 0 0), (.slice none 0 0)] 71 (0, 0))) ∧ Aside0 (w'.heap[gb425]? = some (.cells #[.int .i64 a0_0, u426001, u426002] 71 (0, 0))) ∧ Aside0 (Below w.heap.size w w'))
 case atStart => exact ⟨(0), (([] : List (List Int))), (([] : List Bool)), (.slice none 0 0), (.slice none 0 0), (eW), H', ⟨Nat.le_refl _⟩, ⟨by first | exact Kd.S_nil _ _ _ _ _ | exact Kd.N_nil _ _ _ _ _ | exact Kd.V_nil _ _ _ _ _ | exact Kd.Q_nil _ _ _ _ _ | exact Kd.R_nil _ _ _ _ _⟩, ⟨by first | exact Kd.R_nil _ _ _ _ _ | exact Kd.N_nil _ _ _ _ _ | exact Kd.V_nil _ _ _ _ _ | exact Kd.Q_nil _ _ _ _ _ | exact Kd.S_nil _ _ _ _ _⟩, ⟨by (with_reducible repeat (first | refine blk_drewN ?_ _ | refine blk_drew ?_ | refine blk_alloc ?_ _)); refine blk_far ?_ NB423_425.out _; (with_reducible repeat (first | refine blk_drewN ?_ _ | refine blk_drew ?_ | refine blk_alloc ?_ _)); refine blk_far ?_ NB423_425.out _; (with_reducible repeat (first | refine blk_drewN ?_ _ | refine blk_drew ?_ | refine blk_alloc ?_ _)); refine blk_far ?_ NB423_425.out _; exact bP BK423.out⟩, ⟨by (with_reducible repeat (first | refine blk_drewN ?_ _ | refine blk_drew ?_ | refine blk_alloc ?_ _)); refine blk_far ?_ NB424_425.out _; (with_reducible repeat (first | refine blk_drewN ?_ _ | refine blk_drew ?_ | refine blk_alloc ?_ _)); refine blk_far ?_ NB424_425.out _; (with_reducible repeat (first | refine blk_drewN ?_ _ | refine blk_drew ?_ | refine blk_alloc ?_ _)); refine blk_far ?_ NB424_425.out _; exact bP BK424.out⟩, ⟨by (with_reducible repeat (first | refine blk_drewN ?_ _ | refine blk_drew ?_ | refine blk_alloc ?_ _)); refine blk_put (cs := #[.int .i64 a0_0, .slice none 0 0, .slice none 0 0]) ?_ 2 _ rfl; (with_reducible repeat (first | refine blk_drewN ?_ _ | refine blk_drew ?_ | refine blk_alloc ?_ _)); refine blk_put (cs := #[.int .i64 a0_0, .slice none 0 0, .slice none 0 0]) ?_ 1 _ rfl; (with_reducible repeat (first | refine blk_drewN ?_ _ | refine blk_drew ?_ | refine blk_alloc ?_ _)); refine blk_put (cs := #[.int .i64 0, .slice none 0 0, .slice none 0 0]) ?_ 0 _ rfl; exact bP BK425.out⟩, ⟨bW⟩⟩
 case round =>
  clear H'
  try clear p2
  try clear c4
  try clear c5
  try clear c7
  try clear c8
  try clear hcz5_0
  try clear hcz5_1
  try clear hcz5_2
  try clear hcz5_3
  try clear hcz9_0
  try clear hcz9_1
  try clear hcz9_2
  try clear hfz5_0
  try clear hfz5_1
  try clear hfz5_2
  try clear hfz5_3
  try clear hfz9_0
  try clear hfz9_1
  try clear hfz9_2
  obtain ⟨x4_1, x426001_1, x426002_1, u426001, u426002, rfl, HA, HK1, HO_426001, HO_426002, BK423, BK424, BK425, HB⟩ := hrel
  cases gk with
  | zero => exact absurd HA.out (by simp [spec_l11Free.l0])
  | succ k1 =>
   have H := HA.out
   clear HA
   simp only [spec_l11Free.l0] at H
   replace H := Option.bind_eq_some_iff.mp H
   obtain ⟨t426, A100, H⟩ := H
   replace H : (if x4_1 < t426 then ((spec_l11Turn.f a0_0 a0_1 a0_2 l0_3 x4_1).bind fun t427 => (spec_l11Free.l1 k1 x4_1 t427 (([] : List Int)) 0 a0_0 a0_1 a0_2 l0_3 a0_0 x426001_1 x426002_1)) else (some (a0_0, x426001_1, x426002_1))) = some (r1, r2, r3) := H
   have A10 := Aside0.mk A100
   clear A100
   by_cases c11 : x4_1 < t426
   ·rw [if_pos c11] at H
    have c11b0 : decide (x4_1 < t426) = true := decide_eq_true c11
    clear c11
    replace H := Option.bind_eq_some_iff.mp H
    obtain ⟨t427, A120, H⟩ := H
    replace H : (spec_l11Free.l1 k1 x4_1 t427 (([] : List Int)) 0 a0_0 a0_1 a0_2 l0_3 a0_0 x426001_1 x426002_1) = some (r1, r2, r3) := H
    have A12 := Aside0.mk A120
    clear A120
    obtain ⟨y428, hy428⟩ : ∃ y_ : List Int, y_ = (([] : List Int)) := ⟨_, rfl⟩
    replace H : (spec_l11Free.l1 k1 x4_1 t427 y428 0 a0_0 a0_1 a0_2 l0_3 a0_0 x426001_1 x426002_1) = some (r1, r2, r3) := by first | (rw [hy428]; with_reducible exact H) | (have H2_ := (Option.bind_some _ _).symm.trans H; rw [hy428]; with_reducible exact H2_) | (have H2_ := (Option.bind_some _ _).symm.trans H; with_reducible exact H2_) | with_reducible exact H | (rw [hy428]; exact H) | exact H
    have Ny428 := Aside0.mk hy428
    clear hy428
    have H' := Aside0.mk H
    clear H
    have hnb13 := NB423_424.out
    have hnc13 := NB424_423.out
    have hnb14 := NB423_425.out
    have hnc14 := NB425_423.out
    have hcz15_0 : wr.cell? ⟨gb423, 0, none⟩ = some (.int .i64 a0_0) := (blk_cell BK423.out 0).trans rfl
    have hcz15_1 : wr.cell? ⟨gb423, 1, none⟩ = some (.int .i64 a0_1) := (blk_cell BK423.out 1).trans rfl
    have hcz15_2 : wr.cell? ⟨gb423, 2, none⟩ = some (.int .i64 a0_2) := (blk_cell BK423.out 2).trans rfl
    have hcz15_3 : wr.cell? ⟨gb423, 3, none⟩ = some (.slice A0_3 l0_3.length c0_3) := (blk_cell BK423.out 3).trans rfl
    have hfz15_0 := blk_frozen BK423.out 0
    have hfz15_1 := blk_frozen BK423.out 1
    have hfz15_2 := blk_frozen BK423.out 2
    have hfz15_3 := blk_frozen BK423.out 3
    go_wp2_with (first | ((with_reducible refine gate_callee (f := 51) rfl ?_); refine goesS (some 13) Try.func51 #[.agg #[.int .i64 a0_0, .int .i64 a0_1, .int .i64 a0_2, .slice A0_3 l0_3.length c0_3]] ?_; (with_reducible refine (spec_l11States.calls a0_0 a0_1 a0_2 _ _ l0_3 t426 _ ?side1 ?side2 A10.out).mono ?_); (case side1 => exact cP (Kd.C_below HR0_3.out HB.out)); (case side2 => exact HC0_3.out); rintro e w16 ⟨rfl, hb⟩; refine ⟨_, rfl, ?_⟩; have n0_ := Aside0.mk (Kd.S_below (sP HO_426001.out) hb); have n1_ := Aside0.mk (Kd.R_below (rP HO_426002.out) hb); have n2_ := Aside0.mk (blkB BK423.out hb); have n3_ := Aside0.mk (blkB BK424.out hb); have n4_ := Aside0.mk (blkB BK425.out hb); have n5_ := Aside0.mk (below_step (bW) hb); clear HO_426001; clear HO_426002; clear BK423; clear BK424; clear BK425; clear HB; have HO_426001 := n0_; have HO_426002 := n1_; have BK423 := n2_; have BK424 := n3_; have BK425 := n4_; have HB := n5_; clear n0_ n1_ n2_ n3_ n4_ n5_; (try clear hb); (try clear hb2); (try clear hk); (try clear hi); obtain ⟨hcz17_0, hcz17_1, hcz17_2, hcz17_3⟩ := cells4 BK423.out; obtain ⟨hfz17_0, hfz17_1, hfz17_2, hfz17_3⟩ := frz4 BK423.out) | ((with_reducible refine gate_callee (f := 55) rfl ?_); refine goesS (some 19) Try.func55 #[.agg #[.int .i64 a0_0, .int .i64 a0_1, .int .i64 a0_2, .slice A0_3 l0_3.length c0_3], .int .i64 x4_1] ?_; (with_reducible refine (spec_l11Turn.calls a0_0 a0_1 a0_2 _ _ l0_3 x4_1 t427 _ ?side1 ?side2 A12.out).mono ?_); (case side1 => exact cP (Kd.C_below HR0_3.out HB.out)); (case side2 => exact HC0_3.out); rintro e w18 ⟨rfl, hb⟩; refine ⟨_, rfl, ?_⟩; have n0_ := Aside0.mk (Kd.S_below (sP HO_426001.out) hb); have n1_ := Aside0.mk (Kd.R_below (rP HO_426002.out) hb); have n2_ := Aside0.mk (blkB BK423.out hb); have n3_ := Aside0.mk (blkB BK424.out hb); have n4_ := Aside0.mk (blkB BK425.out hb); have n5_ := Aside0.mk (below_step (bW) hb); clear HO_426001; clear HO_426002; clear BK423; clear BK424; clear BK425; clear HB; have HO_426001 := n0_; have HO_426002 := n1_; have BK423 := n2_; have BK424 := n3_; have BK425 := n4_; have HB := n5_; clear n0_ n1_ n2_ n3_ n4_ n5_; (try clear hb); (try clear hb2); (try clear hk); (try clear hi)) | ((with_reducible refine gate_dst (N := 20) rfl ?_); refine Kd.R_lit (Kd.int .i64) _ 2 ?hg (N := 20) ?hd (xs := ([] : List Int)) (inner := []) (ok := fun _ => True) (okp := fun _ => True) ?hr ?hp (fun _ hk => hk) trivial (Below.refl _ _) (Nat.le_refl _) (by simp) ?_; (case hd => rfl); (case hg => rfl); (case hr => first | (go_simp; done) | (go_simp; rfl)); (case hp => exact (Reps.none _ _)); intro v429 w19 ho20 hb hg_ hnew_; clear hg_ hnew_; (first | rw [← Ny428.out] at ho20 | (simp only [Int.reduceToNat] at ho20; rw [← Ny428.out] at ho20)); have n0_ := Aside0.mk (Kd.S_elder' (sP HO_426001.out) (Kd.R_base ho20) hb); have n1_ := Aside0.mk (Kd.R_below (rP HO_426002.out) hb); have n2_ := Aside0.mk (Kd.R_lower ho20 (below_size (bW))); have n3_ := Aside0.mk (blkB BK423.out hb); have n4_ := Aside0.mk (blkB BK424.out hb); have n5_ := Aside0.mk (blkB BK425.out hb); have n6_ := Aside0.mk (below_step (bW) hb); clear HO_426001; clear HO_426002; clear BK423; clear BK424; clear BK425; clear HB; have HO_426001 := n0_; have HO_426002 := n1_; have HO430 := n2_; have BK423 := n3_; have BK424 := n4_; have BK425 := n5_; have HB := n6_; clear n0_ n1_ n2_ n3_ n4_ n5_ n6_; clear hb ho20))
    go_loopg [6, 7] k1 (fun kq v6 v7 w' => ∃ (x6_2 : List Int) (x7_2 : Int), v7 = .int .i64 x7_2 ∧ Aside0 (spec_l11Free.l1 kq x4_1 t427 x6_2 x7_2 a0_0 a0_1 a0_2 l0_3 a0_0 x426001_1 x426002_1 = some (r1, r2, r3)) ∧ Aside0 (kq ≤ k1) ∧ Aside0 (Kd.R (Kd.int .i64) 2 w' w.heap.size (fun _ => True) v6 x6_2) ∧ Aside0 (Kd.S (Kd.slice 2 (Kd.int .i64)) 22 w' w.heap.size (fun k_ => some k_ ≠ (v6 : Value).ownBlock) u426001 x426001_1) ∧ Aside0 (Kd.R Kd.bool 4 w' w.heap.size (fun _ => True) u426002 x426002_1) ∧ Aside0 (w'.heap[gb423]? = some (.cells #[.int .i64 a0_0, .int .i64 a0_1, .int .i64 a0_2, (.slice A0_3 l0_3.length c0_3)] 38 (0, 0))) ∧ Aside0 (w'.heap[gb424]? = some (.cells #[.int .i64 0, (.slice none 0 0), (.slice none 0 0)] 71 (0, 0))) ∧ Aside0 (w'.heap[gb425]? = some (.cells #[.int .i64 a0_0, u426001, u426002] 71 (0, 0))) ∧ Aside0 (Below w.heap.size w w'))
    case atStart => exact ⟨(y428), (0), (eW), H', ⟨Nat.le_refl _⟩, ⟨(rP HO430.out)⟩, ⟨by (with_reducible repeat (first | apply Kd.S_alloc | apply Kd.S_drewN | apply Kd.S_drew)); exact Kd.S_mono HO_426001.out (fun _ hk => hk.2)⟩, ⟨(rP HO_426002.out)⟩, ⟨(bP BK423.out)⟩, ⟨(bP BK424.out)⟩, ⟨(bP BK425.out)⟩, ⟨bW⟩⟩
    case round =>
     clear H'
     try clear c1
     try clear p2
     try clear c4
     try clear c5
     try clear c7
     try clear c8
     try clear c11
     try clear c11b0
     try clear c13
     try clear c14
     try clear hcz15_0
     try clear hcz15_1
     try clear hcz15_2
     try clear hcz15_3
     try clear hcz17_0
     try clear hcz17_1
     try clear hcz17_2
     try clear hcz17_3
     try clear hcz5_0
     try clear hcz5_1
     try clear hcz5_2
     try clear hcz5_3
     try clear hcz9_0
     try clear hcz9_1
     try clear hcz9_2
     try clear hfz15_0
     try clear hfz15_1
     try clear hfz15_2
     try clear hfz15_3
     try clear hfz17_0
     try clear hfz17_1
     try clear hfz17_2
     try clear hfz17_3
     try clear hfz5_0
     try clear hfz5_1
     try clear hfz5_2
     try clear hfz5_3
     try clear hfz9_0
     try clear hfz9_1
     try clear hfz9_2
     try clear p2
     obtain ⟨x6_2, x7_2, rfl, HA, HK2, HO_6, HO_426001, HO_426002, BK423, BK424, BK425, HB⟩ := hrel
     cases gk with
     | zero => exact absurd HA.out (by simp [spec_l11Free.l1])
     | succ k2 =>
      have H := HA.out
      clear HA
      simp only [spec_l11Free.l1] at H
      by_cases c21 : x7_2 < a0_0
      ·rw [if_pos c21] at H
       have c21b0 : decide (x7_2 < a0_0) = true := decide_eq_true c21
       clear c21
       by_cases c22 : 0 ≤ t427
       ·rw [if_pos c22] at H
        have c22b0 : decide (0 ≤ t427) = true := decide_eq_true c22
        clear c22
        by_cases c23 : t427 < (l0_3.length : Int)
        ·rw [if_pos c23] at H
         have c23b0 : decide (t427 < (l0_3.length : Int)) = true := decide_eq_true c23
         clear c23
         by_cases c24 : 0 ≤ x7_2
         ·rw [if_pos c24] at H
          have c24b0 : decide (0 ≤ x7_2) = true := decide_eq_true c24
          clear c24
          by_cases c25 : x7_2 < ((rd_L1 l0_3 t427).length : Int)
          ·rw [if_pos c25] at H
           have c25b0 : decide (x7_2 < ((rd_L1 l0_3 t427).length : Int)) = true := decide_eq_true c25
           clear c25
           replace H := Option.bind_eq_some_iff.mp H
           obtain ⟨t433, A260, H⟩ := H
           replace H : (if x6_2.length < 17592186044416 then (spec_l11Free.l1 k2 x4_1 t427 (x6_2 ++ [t433]) (wrap64 (x7_2 + 1)) a0_0 a0_1 a0_2 l0_3 a0_0 x426001_1 x426002_1) else (none)) = some (r1, r2, r3) := H
           have A26 := Aside0.mk A260
           clear A260
           by_cases c27 : x6_2.length < 17592186044416
           ·rw [if_pos c27] at H
            have LMc27 := Aside0.mk c27
            clear c27
            obtain ⟨y434, hy434⟩ : ∃ y_ : List Int, y_ = (x6_2 ++ [t433]) := ⟨_, rfl⟩
            replace H : (spec_l11Free.l1 k2 x4_1 t427 y434 (wrap64 (x7_2 + 1)) a0_0 a0_1 a0_2 l0_3 a0_0 x426001_1 x426002_1) = some (r1, r2, r3) := by first | (rw [hy434]; with_reducible exact H) | (have H2_ := (Option.bind_some _ _).symm.trans H; rw [hy434]; with_reducible exact H2_) | (have H2_ := (Option.bind_some _ _).symm.trans H; with_reducible exact H2_) | with_reducible exact H | (rw [hy434]; exact H) | exact H
            have Ny434 := Aside0.mk hy434
            clear hy434
            have H' := Aside0.mk H
            clear H
            have hnb28 := NB423_424.out
            have hnc28 := NB424_423.out
            have hnb29 := NB423_425.out
            have hnc29 := NB425_423.out
            have hcz30_0 : wr.cell? ⟨gb423, 0, none⟩ = some (.int .i64 a0_0) := (blk_cell BK423.out 0).trans rfl
            have hcz30_1 : wr.cell? ⟨gb423, 1, none⟩ = some (.int .i64 a0_1) := (blk_cell BK423.out 1).trans rfl
            have hcz30_2 : wr.cell? ⟨gb423, 2, none⟩ = some (.int .i64 a0_2) := (blk_cell BK423.out 2).trans rfl
            have hcz30_3 : wr.cell? ⟨gb423, 3, none⟩ = some (.slice A0_3 l0_3.length c0_3) := (blk_cell BK423.out 3).trans rfl
            have hfz30_0 := blk_frozen BK423.out 0
            have hfz30_1 := blk_frozen BK423.out 1
            have hfz30_2 := blk_frozen BK423.out 2
            have hfz30_3 := blk_frozen BK423.out 3
            try go_wp2
            have n0_ := Aside0.mk (Kd.R_drew HO_6.out)
            have n1_ := Aside0.mk (Kd.S_drew HO_426001.out)
            have n2_ := Aside0.mk (Kd.R_drew HO_426002.out)
            have n3_ := Aside0.mk (blk_drew BK423.out)
            have n4_ := Aside0.mk (blk_drew BK424.out)
            have n5_ := Aside0.mk (blk_drew BK425.out)
            have n6_ := Aside0.mk (below_drew1 HB.out)
            clear HO_6
            clear HO_426001
            clear HO_426002
            clear BK423
            clear BK424
            clear BK425
            clear HB
            have HO_6 := n0_
            have HO_426001 := n1_
            have HO_426002 := n2_
            have BK423 := n3_
            have BK424 := n4_
            have BK425 := n5_
            have HB := n6_
            clear n0_ n1_ n2_ n3_ n4_ n5_ n6_
            have p431 : 0 ≤ (t427 : Int) := ofD
            have q431 : t427 < (l0_3.length : Int) := ofD
            obtain ⟨ad431, A431_0, c431_0, e431, hx431_0, hl431_0, hi431_0⟩ := at_L1 HR0_3.out t427 p431 q431
            have hw431_0 := hx431_0
            cases e431
            replace hx431_0 := (HB.out.cell (World.block_lt_of_cell? w _ hx431_0)).trans hx431_0
            have HR431_0 := Aside0.mk hi431_0
            have HC431_0 := Aside0.mk hl431_0
            clear hi431_0 hl431_0
            replace p431 := eq_true p431
            replace q431 := eq_true q431
            have p432 : 0 ≤ (x7_2 : Int) := ofD
            have q432 : x7_2 < ((rd_L1 l0_3 t427).length : Int) := ofD
            obtain ⟨ad432, e432, hx432_0⟩ := Kd.at_int HR431_0.out x7_2 p432 q432
            have hw432_0 := hx432_0
            cases e432
            replace hx432_0 := (HB.out.cell (World.block_lt_of_cell? w _ hx432_0)).trans hx432_0
            replace p432 := eq_true p432
            replace q432 := eq_true q432
            refine start_ (n := 14) (S := fun w' => w'.cell? ⟨gb423, 0, none⟩ = some (.int .i64 a0_0) ∧ w'.cell? ⟨gb423, 1, none⟩ = some (.int .i64 a0_1) ∧ w'.cell? ⟨gb423, 2, none⟩ = some (.int .i64 a0_2) ∧ w'.cell? ⟨gb423, 3, none⟩ = some (.slice (some ad431) l0_3.length c0_3) ∧ w'.cell? (ad431.add (t427).toNat) = some (.slice (some ad432) (rd_L1 l0_3 t427).length c431_0) ∧ w'.cell? (ad432.add (x7_2).toNat) = some (.int .i64 (rd (rd_L1 l0_3 t427) x7_2))) (ds := []) #[false, false, false, false, false, false, false, false, false, false, false, false, false, false] (by kernel_rfl) rfl rfl ⟨(blk_cell BK423.out 0).trans rfl, (blk_cell BK423.out 1).trans rfl, (blk_cell BK423.out 2).trans rfl, (blk_cell BK423.out 3).trans rfl, ((HB.out.cell (World.block_lt_of_cell? w _ hw431_0)).trans hw431_0), ((HB.out.cell (World.block_lt_of_cell? w _ hw432_0)).trans hw432_0)⟩ (fun hHeld => ?_); refine with_tabW spec_l11Free.tab10 spec_l11Free.bits10 (fun HT_ HW_ => ?_)
            generalize wr.drew = w31 at HO_6 HO_426001 HO_426002 BK423 BK424 BK425 HB HR431_0 hx431_0 hx432_0 hHeld ⊢
            refine pure_ (i := 0) (N := some 27) (v := ?_) (a' := ?_) #[true, false, false, false, false, false, false, false, false, false, false, false, false, false] rfl rfl (any_of HT_.out (by kernel_rfl)) (fun _ _ _ h => h) (Or.inl ⟨by rfl, ?_⟩) ?_ ?_
            rotate_left
            ·intro w'
             go_simp
             with_reducible rfl
            rotate_left
            ·simp only [Act.put, List.setIfInBounds_toArray, List.set_cons_zero, List.set_cons_succ, i64_w, i32_w]
             rfl
            refine pure_ (i := 2) (N := some 29) (v := ?_) (a' := ?_) #[true, false, true, false, false, false, false, false, false, false, false, false, false, false] rfl rfl (any_of HT_.out (by kernel_rfl)) (fun _ _ _ h => h) (Or.inl ⟨by rfl, ?_⟩) ?_ ?_
            rotate_left
            ·intro w'
             go_simp
             with_reducible rfl
            rotate_left
            ·simp only [Act.put, List.setIfInBounds_toArray, List.set_cons_zero, List.set_cons_succ, i64_w, i32_w]
             rfl
            refine pure_ (i := 4) (N := some 31) (v := ?_) (a' := ?_) #[true, false, true, false, true, false, false, false, false, false, false, false, false, false] rfl rfl (any_of HT_.out (by kernel_rfl)) (fun _ _ _ h => h) (Or.inl ⟨by rfl, ?_⟩) ?_ ?_
            rotate_left
            ·intro w'
             go_simp
             with_reducible rfl
            rotate_left
            ·simp only [Act.put, List.setIfInBounds_toArray, List.set_cons_zero, List.set_cons_succ, i64_w, i32_w]
             rfl
            refine pure_ (i := 7) (N := some 34) (v := ?_) (a' := ?_) #[true, false, true, false, true, false, false, true, false, false, false, false, false, false] rfl rfl (any_of HT_.out (by kernel_rfl)) (fun _ _ _ h => h) (Or.inl ⟨by rfl, ?_⟩) ?_ ?_
            rotate_left
            ·intro w'
             go_simp
             with_reducible rfl
            rotate_left
            ·simp only [Act.put, List.setIfInBounds_toArray, List.set_cons_zero, List.set_cons_succ, i64_w, i32_w]
             rfl
            refine take_ (i := 1) (N := some 28) (v := ?_) (a' := ?_) #[true, true, true, false, true, false, false, true, false, false, false, false, false, false] rfl rfl (take_ofW HT_.out HW_.out (by kernel_rfl)) (fun _ _ _ h => h) (Or.inl ⟨by rfl, ?_⟩) hHeld ?_ ?_
            rotate_left
            ·rintro w' ⟨s0, s1, s2, s3, s4, s5⟩
             go_simp
             with_reducible rfl
            rotate_left
            ·simp only [Act.put, List.setIfInBounds_toArray, List.set_cons_zero, List.set_cons_succ, i64_w, i32_w]
             rfl
            refine take_ (i := 3) (N := some 30) (v := ?_) (a' := ?_) #[true, true, true, true, true, false, false, true, false, false, false, false, false, false] rfl rfl (take_ofW HT_.out HW_.out (by kernel_rfl)) (fun _ _ _ h => h) (Or.inl ⟨by rfl, ?_⟩) hHeld ?_ ?_
            rotate_left
            ·rintro w' ⟨s0, s1, s2, s3, s4, s5⟩
             go_simp
             with_reducible rfl
            rotate_left
            ·simp only [Act.put, List.setIfInBounds_toArray, List.set_cons_zero, List.set_cons_succ, i64_w, i32_w]
             rfl
            refine pure_ (i := 5) (N := some 32) (v := ?_) (a' := ?_) #[true, true, true, true, true, true, false, true, false, false, false, false, false, false] rfl rfl (any_of HT_.out (by kernel_rfl)) (fun _ _ _ h => h) (Or.inl ⟨by rfl, ?_⟩) ?_ ?_
            rotate_left
            ·intro w'
             go_simp
             with_reducible rfl
            rotate_left
            ·simp only [Act.put, List.setIfInBounds_toArray, List.set_cons_zero, List.set_cons_succ, i64_w, i32_w]
             rfl
            refine take_ (i := 6) (N := some 33) (v := ?_) (a' := ?_) #[true, true, true, true, true, true, true, true, false, false, false, false, false, false] rfl rfl (take_ofW HT_.out HW_.out (by kernel_rfl)) (fun _ _ _ h => h) (Or.inl ⟨by rfl, ?_⟩) hHeld ?_ ?_
            rotate_left
            ·rintro w' ⟨s0, s1, s2, s3, s4, s5⟩
             go_simp
             with_reducible rfl
            rotate_left
            ·simp only [Act.put, List.setIfInBounds_toArray, List.set_cons_zero, List.set_cons_succ, i64_w, i32_w]
             rfl
            refine pure_ (i := 8) (N := some 35) (v := ?_) (a' := ?_) #[true, true, true, true, true, true, true, true, true, false, false, false, false, false] rfl rfl (any_of HT_.out (by kernel_rfl)) (fun _ _ _ h => h) (Or.inl ⟨by rfl, ?_⟩) ?_ ?_
            rotate_left
            ·intro w'
             go_simp
             with_reducible rfl
            rotate_left
            ·simp only [Act.put, List.setIfInBounds_toArray, List.set_cons_zero, List.set_cons_succ, i64_w, i32_w]
             rfl
            refine take_ (i := 9) (N := some 36) (v := ?_) (a' := ?_) #[true, true, true, true, true, true, true, true, true, true, false, false, false, false] rfl rfl (take_ofW HT_.out HW_.out (by kernel_rfl)) (fun _ _ _ h => h) (Or.inl ⟨by rfl, ?_⟩) hHeld ?_ ?_
            rotate_left
            ·rintro w' ⟨s0, s1, s2, s3, s4, s5⟩
             go_simp
             with_reducible rfl
            rotate_left
            ·simp only [Act.put, List.setIfInBounds_toArray, List.set_cons_zero, List.set_cons_succ, i64_w, i32_w]
             rfl
            refine one_ (i := 10) (N := some 37) #[true, true, true, true, true, true, true, true, true, true, true, false, false, false] rfl rfl (one_of HT_.out (by kernel_rfl)) (by decide) (fun K hK => ?_)
            refine goes_ Try.func55 (by kernel_rfl) rfl #[.agg #[.int .i64 a0_0, .int .i64 a0_1, .int .i64 a0_2, .slice (some ad431) l0_3.length c0_3], .int .i64 (rd (rd_L1 l0_3 t427) x7_2)] (by rfl) rfl rfl (by (try simp only [List.map_toArray, List.map_cons, List.map_nil]); first | done | rfl | (simp only [List.length_drop, List.length_take]; rfl)) ?_
            with_reducible refine (spec_l11Turn.calls a0_0 a0_1 a0_2 _ _ l0_3 (rd (rd_L1 l0_3 t427) x7_2) t433 _ ?side1 ?side2 A26.out).mono ?_
            (case side1 => exact cP (Kd.C_below HR0_3.out HB.out))
            (case side2 => exact HC0_3.out)
            rintro e w32 ⟨rfl, hb⟩
            refine ⟨_, rfl, ?_⟩
            have n0_ := Aside0.mk (Kd.R_below (rP HO_6.out) hb)
            have n1_ := Aside0.mk (Kd.S_below (sP HO_426001.out) hb)
            have n2_ := Aside0.mk (Kd.R_below (rP HO_426002.out) hb)
            have n3_ := Aside0.mk (blkB BK423.out hb)
            have n4_ := Aside0.mk (blkB BK424.out hb)
            have n5_ := Aside0.mk (blkB BK425.out hb)
            have n6_ := Aside0.mk (below_step (bW) hb)
            clear HO_6
            clear HO_426001
            clear HO_426002
            clear BK423
            clear BK424
            clear BK425
            clear HB
            have HO_6 := n0_
            have HO_426001 := n1_
            have HO_426002 := n2_
            have BK423 := n3_
            have BK424 := n4_
            have BK425 := n5_
            have HB := n6_
            clear n0_ n1_ n2_ n3_ n4_ n5_ n6_
            (try clear hb)
            (try clear hb2)
            (try clear hk)
            (try clear hi)
            refine hK.out _ _ ⟨(blk_cell BK423.out 0).trans rfl, (blk_cell BK423.out 1).trans rfl, (blk_cell BK423.out 2).trans rfl, (blk_cell BK423.out 3).trans rfl, ((HB.out.cell (World.block_lt_of_cell? w _ hw431_0)).trans hw431_0), ((HB.out.cell (World.block_lt_of_cell? w _ hw432_0)).trans hw432_0)⟩ (fun hHeld => ?_)
            clear hK K
            refine norm_ (a' := ?_) ?_ ?_
            rotate_left
            ·show Act.put _ (some 37) _ = _
             simp only [Act.put, List.setIfInBounds_toArray, List.set_cons_zero, List.set_cons_succ, i64_w, i32_w]
             rfl
            refine one_ (i := 11) (N := some 38) #[true, true, true, true, true, true, true, true, true, true, true, true, false, false] rfl rfl (one_of HT_.out (by kernel_rfl)) (by decide) (fun K hK => ?_)
            refine value_ (w1 := ?_) (v := ?_) (by rfl) rfl ?_ ?_
            rotate_left 2
            ·go_simp
             constructor
             ·rfl
             ·rfl
            refine hK.out _ _ ⟨(blk_cell (blk_alloc BK423.out _) 0).trans rfl, (blk_cell (blk_alloc BK423.out _) 1).trans rfl, (blk_cell (blk_alloc BK423.out _) 2).trans rfl, (blk_cell (blk_alloc BK423.out _) 3).trans rfl, (World.cell?_alloc_lt _ _ _ (World.block_lt_of_cell? _ _ (((HB.out.cell (World.block_lt_of_cell? w _ hw431_0)).trans hw431_0)))).trans (((HB.out.cell (World.block_lt_of_cell? w _ hw431_0)).trans hw431_0)), (World.cell?_alloc_lt _ _ _ (World.block_lt_of_cell? _ _ (((HB.out.cell (World.block_lt_of_cell? w _ hw432_0)).trans hw432_0)))).trans (((HB.out.cell (World.block_lt_of_cell? w _ hw432_0)).trans hw432_0))⟩ (fun hHeld => ?_)
            clear hK K
            refine norm_ (a' := ?_) ?_ ?_
            rotate_left
            ·show Act.put _ (some 38) _ = _
             simp only [Act.put, List.setIfInBounds_toArray, List.set_cons_zero, List.set_cons_succ, i64_w, i32_w]
             rfl
            refine one_ (i := 12) (N := some 39) #[true, true, true, true, true, true, true, true, true, true, true, true, true, false] rfl rfl (one_of HT_.out (by kernel_rfl)) (by decide) (fun K hK => ?_)
            refine Kd.R_append_step (Kd.int .i64) (w0 := w) w.heap.size (by rfl) (.tmp 27) (.tmp 38) 22 2 (.int .i64 0) 8 rfl Try.underlying22 info2 rfl (by decide) (by omega) u6 x6_2 t433 [.int .i64 t433] (fun _ => True) (fun _ => False) rfl rfl ?aP (fun _ hk => hk.elim) ?aF ?aO ?aB ?aS ?aL ?_
            (case aP => exact rfl)
            (case aB => exact (bW))
            (case aF => exact (fun _ _ => trivial))
            (case aO => exact (rP HO_6.out))
            (case aS => exact (below_size (bW)))
            (case aL => have := LMc27.out; omega)
            intro v435 w33 ho hb hg hat
            rw [← Ny434.out] at ho
            have n0_ := Aside0.mk (Kd.S_after (ok := (fun _ => True)) (by (with_reducible repeat (first | apply Kd.S_alloc | apply Kd.S_drewN | apply Kd.S_drew)); exact Kd.S_mono HO_426001.out (fun _ hk => ⟨trivial, hk⟩)) hg hat)
            have n1_ := Aside0.mk (Kd.R_over' (rP HO_426002.out) (Kd.R_typed (rP HO_6.out)) (by decide) hg)
            have n2_ := Aside0.mk (blk_grown (g := gb423) (o := .cells #[.int .i64 a0_0, .int .i64 a0_1, .int .i64 a0_2, .slice (some ad431) l0_3.length c0_3] 38 (0, 0)) (bP BK423.out) hg (Kd.R_ne HO_6.out BK423.out (by decide)))
            have n3_ := Aside0.mk (blk_grown (g := gb424) (o := .cells #[.int .i64 0, .slice none 0 0, .slice none 0 0] 71 (0, 0)) (bP BK424.out) hg (Kd.R_ne HO_6.out BK424.out (by decide)))
            have n4_ := Aside0.mk (blk_grown (g := gb425) (o := .cells #[.int .i64 a0_0, u426001, u426002] 71 (0, 0)) (bP BK425.out) hg (Kd.R_ne HO_6.out BK425.out (by decide)))
            have n5_ := Aside0.mk (hb)
            have n6_ := Aside0.mk (ho)
            clear HO_426001
            clear HO_426002
            clear BK423
            clear BK424
            clear BK425
            clear HB
            clear HO_6
            have HO_426001 := n0_
            have HO_426002 := n1_
            have BK423 := n2_
            have BK424 := n3_
            have BK425 := n4_
            have HB := n5_
            have HO436 := n6_
            clear n0_ n1_ n2_ n3_ n4_ n5_ n6_
            clear ho hb hg hat
            refine hK.out _ _ ⟨(blk_cell BK423.out 0).trans rfl, (blk_cell BK423.out 1).trans rfl, (blk_cell BK423.out 2).trans rfl, (blk_cell BK423.out 3).trans rfl, ((HB.out.cell (World.block_lt_of_cell? w _ hw431_0)).trans hw431_0), ((HB.out.cell (World.block_lt_of_cell? w _ hw432_0)).trans hw432_0)⟩ (fun hHeld => ?_)
            clear hK K
            refine norm_ (a' := ?_) ?_ ?_
            rotate_left
            ·show Act.put _ (some 39) _ = _
             simp only [Act.put, List.setIfInBounds_toArray, List.set_cons_zero, List.set_cons_succ, i64_w, i32_w]
             rfl
            refine pure_ (i := 13) (N := some 6) (v := ?_) (a' := ?_) #[true, true, true, true, true, true, true, true, true, true, true, true, true, true] rfl rfl (any_of HT_.out (by kernel_rfl)) (fun _ _ _ h => h) (Or.inl ⟨by rfl, ?_⟩) ?_ ?_
            rotate_left
            ·intro w'
             go_simp
             with_reducible rfl
            rotate_left
            ·simp only [Act.put, List.setIfInBounds_toArray, List.set_cons_zero, List.set_cons_succ, i64_w, i32_w]
             rfl
            refine done_ (done_of HT_.out (by kernel_rfl)) ?_
            try go_wp2
            go_roundg k2
            case measure => have := HK1.out; have := HK2.out; omega
            case rel => exact ⟨(y434), (wrap64 (x7_2 + 1)), (eW), H', ⟨by have := HK1.out; have := HK2.out; omega⟩, ⟨(rP HO436.out)⟩, ⟨by (with_reducible repeat (first | apply Kd.S_alloc | apply Kd.S_drewN | apply Kd.S_drew)); exact Kd.S_mono HO_426001.out (fun _ hk => hk.2)⟩, ⟨(rP HO_426002.out)⟩, ⟨(bP BK423.out)⟩, ⟨(bP BK424.out)⟩, ⟨(bP BK425.out)⟩, ⟨bW⟩⟩
           ·rw [if_neg c27] at H
            exact absurd H (by simp)
          ·rw [if_neg c25] at H
           exact absurd H (by simp)
         ·rw [if_neg c24] at H
          exact absurd H (by simp)
        ·rw [if_neg c23] at H
         exact absurd H (by simp)
       ·rw [if_neg c22] at H
        exact absurd H (by simp)
      ·rw [if_neg c21] at H
       have c21b0 : decide (x7_2 < a0_0) = false := decide_eq_false c21
       clear c21
       by_cases c34 : x426001_1.length < 5864062014805
       ·rw [if_pos c34] at H
        have LMc34 := Aside0.mk c34
        clear c34
        obtain ⟨y437, hy437⟩ : ∃ y_ : List (List Int), y_ = (x426001_1 ++ [x6_2]) := ⟨_, rfl⟩
        replace H : ((spec_l01Bit.f a0_2 t427).bind fun t440 => (if x426002_1.length < 140737488355328 then (spec_l11Free.l0 k2 (wrap64 (x4_1 + 1)) a0_0 a0_1 a0_2 l0_3 a0_0 y437 (x426002_1 ++ [t440])) else (none))) = some (r1, r2, r3) := by first | (rw [hy437]; with_reducible exact H) | (have H2_ := (Option.bind_some _ _).symm.trans H; rw [hy437]; with_reducible exact H2_) | (have H2_ := (Option.bind_some _ _).symm.trans H; with_reducible exact H2_) | with_reducible exact H | (rw [hy437]; exact H) | exact H
        have Ny437 := Aside0.mk hy437
        clear hy437
        replace H := Option.bind_eq_some_iff.mp H
        obtain ⟨t440, A350, H⟩ := H
        replace H : (if x426002_1.length < 140737488355328 then (spec_l11Free.l0 k2 (wrap64 (x4_1 + 1)) a0_0 a0_1 a0_2 l0_3 a0_0 y437 (x426002_1 ++ [t440])) else (none)) = some (r1, r2, r3) := H
        have A35 := Aside0.mk A350
        clear A350
        by_cases c36 : x426002_1.length < 140737488355328
        ·rw [if_pos c36] at H
         have LMc36 := Aside0.mk c36
         clear c36
         obtain ⟨y441, hy441⟩ : ∃ y_ : List Bool, y_ = (x426002_1 ++ [t440]) := ⟨_, rfl⟩
         replace H : (spec_l11Free.l0 k2 (wrap64 (x4_1 + 1)) a0_0 a0_1 a0_2 l0_3 a0_0 y437 y441) = some (r1, r2, r3) := by first | (rw [hy441]; with_reducible exact H) | (have H2_ := (Option.bind_some _ _).symm.trans H; rw [hy441]; with_reducible exact H2_) | (have H2_ := (Option.bind_some _ _).symm.trans H; with_reducible exact H2_) | with_reducible exact H | (rw [hy441]; exact H) | exact H
         have Ny441 := Aside0.mk hy441
         clear hy441
         have H' := Aside0.mk H
         clear H
         have hnb37 := NB423_424.out
         have hnc37 := NB424_423.out
         have hnb38 := NB423_425.out
         have hnc38 := NB425_423.out
         have hcz39_0 : wr.cell? ⟨gb423, 0, none⟩ = some (.int .i64 a0_0) := (blk_cell BK423.out 0).trans rfl
         have hcz39_1 : wr.cell? ⟨gb423, 1, none⟩ = some (.int .i64 a0_1) := (blk_cell BK423.out 1).trans rfl
         have hcz39_2 : wr.cell? ⟨gb423, 2, none⟩ = some (.int .i64 a0_2) := (blk_cell BK423.out 2).trans rfl
         have hcz39_3 : wr.cell? ⟨gb423, 3, none⟩ = some (.slice A0_3 l0_3.length c0_3) := (blk_cell BK423.out 3).trans rfl
         have hfz39_0 := blk_frozen BK423.out 0
         have hfz39_1 := blk_frozen BK423.out 1
         have hfz39_2 := blk_frozen BK423.out 2
         have hfz39_3 := blk_frozen BK423.out 3
         have hnb40 := NB425_424.out
         have hnc40 := NB424_425.out
         have hcz41_0 : wr.cell? ⟨gb425, 0, none⟩ = some (.int .i64 a0_0) := (blk_cell BK425.out 0).trans rfl
         have hcz41_1 : wr.cell? ⟨gb425, 1, none⟩ = some (u426001) := (blk_cell BK425.out 1).trans rfl
         have hcz41_2 : wr.cell? ⟨gb425, 2, none⟩ = some (u426002) := (blk_cell BK425.out 2).trans rfl
         have hfz41_0 := blk_frozen BK425.out 0
         have hfz41_1 := blk_frozen BK425.out 1
         have hfz41_2 := blk_frozen BK425.out 2
         obtain ⟨Ao43, co43, eo43⟩ := Kd.R_slice HO_6.out
         subst eo43
         try go_wp2_with (first | ((with_reducible refine gate_builtin (b := .append) (xs := #[.tmp 41, .tmp 43]) rfl ?_); at_builtin; refine Kd.S_append (Kd.slice 2 (Kd.int .i64)) (w0 := w) w.heap.size rfl (.tmp 41) (.tmp 43) 33 22 (.slice none 0 0) 24 rfl Try.underlying33 info22 rfl (by decide) (by omega) u426001 x426001_1 x6_2 [.slice Ao43 x6_2.length co43] (fun _ => True) (fun k_ => some k_ = (.slice Ao43 x6_2.length co43 : Value).ownBlock) rfl rfl ?aP (fun k_ hk_ => ((Kd.R_mono (ok' := fun k_ => ((fun _ => True)) k_ ∧ some k_ ≠ (u426001 : Value).ownBlock) (Kd.R_apart' (HO_6.out) (Kd.S_typed HO_426001.out) (by decide)) (fun k_ hk => ⟨trivial, hk.2⟩))).1 k_ hk_.symm) ?aF ?aO ?aB ?aS ?aL ?_; (case aP => exact Kd.M_row (Kd.R_mono (Kd.R_tight rfl (Kd.R_mono (ok' := fun k_ => ((fun _ => True)) k_ ∧ some k_ ≠ (u426001 : Value).ownBlock) (Kd.R_apart' (HO_6.out) (Kd.S_typed HO_426001.out) (by decide)) (fun k_ hk => ⟨trivial, hk.2⟩))) (fun _ h_ => h_))); (case aB => exact (bW)); (case aF => exact (fun _ _ => trivial)); (case aO => exact (by (with_reducible repeat (first | apply Kd.S_alloc | apply Kd.S_drewN | apply Kd.S_drew)); exact Kd.S_mono HO_426001.out (fun k_ hk => ⟨trivial, fun e_ => hk e_⟩))); (case aS => exact (below_size (bW))); (case aL => have := LMc34.out; omega); intro v438 w42 ho hb hg hat; rw [← Ny437.out] at ho; have n0_ := Aside0.mk (Kd.R_over' (rP HO_426002.out) (Kd.S_typed (sP HO_426001.out)) (by decide) hg); have n1_ := Aside0.mk (blk_grown (g := gb423) (o := .cells #[.int .i64 a0_0, .int .i64 a0_1, .int .i64 a0_2, .slice A0_3 l0_3.length c0_3] 38 (0, 0)) (bP BK423.out) hg (Kd.S_ne HO_426001.out BK423.out (by decide))); have n2_ := Aside0.mk (blk_grown (g := gb424) (o := .cells #[.int .i64 0, .slice none 0 0, .slice none 0 0] 71 (0, 0)) (bP BK424.out) hg (Kd.S_ne HO_426001.out BK424.out (by decide))); have n3_ := Aside0.mk (blk_grown (g := gb425) (o := .cells #[.int .i64 a0_0, u426001, u426002] 71 (0, 0)) (bP BK425.out) hg (Kd.S_ne HO_426001.out BK425.out (by decide))); have n4_ := Aside0.mk (hb); have n5_ := Aside0.mk (ho); clear HO_426002; clear BK423; clear BK424; clear BK425; clear HB; clear HO_426001; clear HO_6; have HO_426002 := n0_; have BK423 := n1_; have BK424 := n2_; have BK425 := n3_; have HB := n4_; have HO439 := n5_; clear n0_ n1_ n2_ n3_ n4_ n5_; clear ho hb hg hat; obtain ⟨Ao44, co44, eo44⟩ := Kd.S_slice HO439.out; subst eo44; obtain ⟨hcz45_0, hcz45_1, hcz45_2⟩ := cells3 BK425.out; obtain ⟨hfz45_0, hfz45_1, hfz45_2⟩ := frz3 BK425.out))
         have n0_ : Aside0 (Kd.R Kd.bool 4 (w42.setCell ⟨gb425, 1, none⟩ (.slice Ao44 y437.length co44)) w.heap.size (fun _ => True) u426002 x426002_1) := ⟨by (with_reducible repeat (first | apply Kd.R_alloc | apply Kd.R_drewN | apply Kd.R_drew)); exact Kd.R_mono (Kd.R_far (p := ⟨gb425, 1, none⟩) (Kd.R_types HO_426002.out BK425.out (by decide)) (fun _ hk => hk.2) (.slice Ao44 y437.length co44)) (fun _ hk => trivial)⟩
         have n1_ : Aside0 (Kd.S (Kd.slice 2 (Kd.int .i64)) 22 (w42.setCell ⟨gb425, 1, none⟩ (.slice Ao44 y437.length co44)) w.heap.size (fun _ => True) (.slice Ao44 y437.length co44) y437) := ⟨by (with_reducible repeat (first | apply Kd.S_alloc | apply Kd.S_drewN | apply Kd.S_drew)); exact Kd.S_mono (Kd.S_far (p := ⟨gb425, 1, none⟩) (Kd.S_types HO439.out BK425.out (by decide)) (fun _ hk => hk.2) (.slice Ao44 y437.length co44)) (fun _ hk => trivial)⟩
         have n2_ : Aside0 ((w42.setCell ⟨gb425, 1, none⟩ (.slice Ao44 y437.length co44)).heap[gb423]? = some (.cells #[.int .i64 a0_0, .int .i64 a0_1, .int .i64 a0_2, .slice A0_3 l0_3.length c0_3] 38 (0, 0))) := ⟨by (with_reducible repeat (first | refine blk_drewN ?_ _ | refine blk_drew ?_ | refine blk_alloc ?_ _)); refine blk_far ?_ NB423_425.out _; exact bP BK423.out⟩
         have n3_ : Aside0 ((w42.setCell ⟨gb425, 1, none⟩ (.slice Ao44 y437.length co44)).heap[gb424]? = some (.cells #[.int .i64 0, .slice none 0 0, .slice none 0 0] 71 (0, 0))) := ⟨by (with_reducible repeat (first | refine blk_drewN ?_ _ | refine blk_drew ?_ | refine blk_alloc ?_ _)); refine blk_far ?_ NB424_425.out _; exact bP BK424.out⟩
         have n4_ : Aside0 ((w42.setCell ⟨gb425, 1, none⟩ (.slice Ao44 y437.length co44)).heap[gb425]? = some (.cells #[.int .i64 a0_0, .slice Ao44 y437.length co44, u426002] 71 (0, 0))) := ⟨by (with_reducible repeat (first | refine blk_drewN ?_ _ | refine blk_drew ?_ | refine blk_alloc ?_ _)); refine blk_put (cs := #[.int .i64 a0_0, u426001, u426002]) ?_ 1 _ rfl; exact bP BK425.out⟩
         have n5_ : Aside0 (Below w.heap.size w (w42.setCell ⟨gb425, 1, none⟩ (.slice Ao44 y437.length co44))) := ⟨bW⟩
         (try clear HO_426002)
         (try clear HO439)
         (try clear BK423)
         (try clear BK424)
         (try clear BK425)
         (try clear HB)
         generalize (w42.setCell ⟨gb425, 1, none⟩ (.slice Ao44 y437.length co44)) = w46 at n0_ n1_ n2_ n3_ n4_ n5_ ⊢
         have HO_426002 := n0_
         have HO439 := n1_
         have BK423 := n2_
         have BK424 := n3_
         have BK425 := n4_
         have HB := n5_
         clear n0_ n1_ n2_ n3_ n4_ n5_
         have n0_ := Aside0.mk (Kd.R_drew HO_426002.out)
         have n1_ := Aside0.mk (Kd.S_drew HO439.out)
         have n2_ := Aside0.mk (blk_drew BK423.out)
         have n3_ := Aside0.mk (blk_drew BK424.out)
         have n4_ := Aside0.mk (blk_drew BK425.out)
         have n5_ := Aside0.mk (below_drew1 HB.out)
         clear HO_426002
         clear HO439
         clear BK423
         clear BK424
         clear BK425
         clear HB
         have HO_426002 := n0_
         have HO439 := n1_
         have BK423 := n2_
         have BK424 := n3_
         have BK425 := n4_
         have HB := n5_
         clear n0_ n1_ n2_ n3_ n4_ n5_
         refine start_ (n := 10) (S := fun w' => w'.cell? ⟨gb425, 0, none⟩ = some (.int .i64 a0_0) ∧ w'.cell? ⟨gb425, 1, none⟩ = some (.slice Ao44 y437.length co44) ∧ w'.cell? ⟨gb425, 2, none⟩ = some (u426002) ∧ w'.cell? ⟨gb423, 0, none⟩ = some (.int .i64 a0_0) ∧ w'.cell? ⟨gb423, 1, none⟩ = some (.int .i64 a0_1) ∧ w'.cell? ⟨gb423, 2, none⟩ = some (.int .i64 a0_2) ∧ w'.cell? ⟨gb423, 3, none⟩ = some (.slice A0_3 l0_3.length c0_3)) (ds := [9]) #[false, false, false, false, false, false, false, false, false, false] (by kernel_rfl) rfl rfl ⟨(blk_cell BK425.out 0).trans rfl, (blk_cell BK425.out 1).trans rfl, (blk_cell BK425.out 2).trans rfl, (blk_cell BK423.out 0).trans rfl, (blk_cell BK423.out 1).trans rfl, (blk_cell BK423.out 2).trans rfl, (blk_cell BK423.out 3).trans rfl⟩ (fun hHeld => ?_); refine with_tabW spec_l11Free.tab12 spec_l11Free.bits12 (fun HT_ HW_ => ?_)
         generalize w46.drew = w47 at HO_426002 HO439 BK423 BK424 BK425 HB hHeld ⊢
         refine pure_ (i := 0) (N := some 46) (v := ?_) (a' := ?_) #[true, false, false, false, false, false, false, false, false, false] rfl rfl (any_of HT_.out (by kernel_rfl)) (fun _ _ _ h => h) (Or.inl ⟨by rfl, ?_⟩) ?_ ?_
         rotate_left
         ·intro w'
          go_simp
          with_reducible rfl
         rotate_left
         ·simp only [Act.put, List.setIfInBounds_toArray, List.set_cons_zero, List.set_cons_succ, i64_w, i32_w]
          rfl
         refine pure_ (i := 2) (N := some 48) (v := ?_) (a' := ?_) #[true, false, true, false, false, false, false, false, false, false] rfl rfl (any_of HT_.out (by kernel_rfl)) (fun _ _ _ h => h) (Or.inl ⟨by rfl, ?_⟩) ?_ ?_
         rotate_left
         ·intro w'
          go_simp
          with_reducible rfl
         rotate_left
         ·simp only [Act.put, List.setIfInBounds_toArray, List.set_cons_zero, List.set_cons_succ, i64_w, i32_w]
          rfl
         refine pure_ (i := 4) (N := some 50) (v := ?_) (a' := ?_) #[true, false, true, false, true, false, false, false, false, false] rfl rfl (any_of HT_.out (by kernel_rfl)) (fun _ _ _ h => h) (Or.inl ⟨by rfl, ?_⟩) ?_ ?_
         rotate_left
         ·intro w'
          go_simp
          with_reducible rfl
         rotate_left
         ·simp only [Act.put, List.setIfInBounds_toArray, List.set_cons_zero, List.set_cons_succ, i64_w, i32_w]
          rfl
         refine take_ (i := 1) (N := some 47) (v := ?_) (a' := ?_) #[true, true, true, false, true, false, false, false, false, false] rfl rfl (take_ofW HT_.out HW_.out (by kernel_rfl)) (fun _ _ _ h => h) (Or.inl ⟨by rfl, ?_⟩) hHeld ?_ ?_
         rotate_left
         ·rintro w' ⟨s0, s1, s2, s3, s4, s5, s6⟩
          go_simp
          with_reducible rfl
         rotate_left
         ·simp only [Act.put, List.setIfInBounds_toArray, List.set_cons_zero, List.set_cons_succ, i64_w, i32_w]
          rfl
         refine take_ (i := 3) (N := some 49) (v := ?_) (a' := ?_) #[true, true, true, true, true, false, false, false, false, false] rfl rfl (take_ofW HT_.out HW_.out (by kernel_rfl)) (fun _ _ _ h => h) (Or.inl ⟨by rfl, ?_⟩) hHeld ?_ ?_
         rotate_left
         ·rintro w' ⟨s0, s1, s2, s3, s4, s5, s6⟩
          go_simp
          with_reducible rfl
         rotate_left
         ·simp only [Act.put, List.setIfInBounds_toArray, List.set_cons_zero, List.set_cons_succ, i64_w, i32_w]
          rfl
         refine one_ (i := 5) (N := some 51) #[true, true, true, true, true, true, false, false, false, false] rfl rfl (one_of HT_.out (by kernel_rfl)) (by decide) (fun K hK => ?_)
         refine goes_ Try.func52 (by kernel_rfl) rfl #[.int .i64 a0_2, .int .i64 t427] (by rfl) rfl rfl (by (try simp only [List.map_toArray, List.map_cons, List.map_nil]); first | done | rfl | (simp only [List.length_drop, List.length_take]; rfl)) ?_
         with_reducible refine (spec_l01Bit.calls a0_2 t427 t440 _ A35.out).mono ?_
         rintro e w' ⟨rfl, ⟨nd, rfl⟩⟩
         refine ⟨_, rfl, ?_⟩
         refine hK.out _ _ ⟨(blk_cell BK425.out 0).trans rfl, (blk_cell BK425.out 1).trans rfl, (blk_cell BK425.out 2).trans rfl, (blk_cell BK423.out 0).trans rfl, (blk_cell BK423.out 1).trans rfl, (blk_cell BK423.out 2).trans rfl, (blk_cell BK423.out 3).trans rfl⟩ (fun hHeld => ?_)
         clear hK K
         refine norm_ (a' := ?_) ?_ ?_
         rotate_left
         ·show Act.put _ (some 51) _ = _
          simp only [Act.put, List.setIfInBounds_toArray, List.set_cons_zero, List.set_cons_succ, i64_w, i32_w]
          rfl
         refine one_ (i := 6) (N := some 52) #[true, true, true, true, true, true, true, false, false, false] rfl rfl (one_of HT_.out (by kernel_rfl)) (by decide) (fun K hK => ?_)
         refine value_ (w1 := ?_) (v := ?_) (by rfl) rfl ?_ ?_
         rotate_left 2
         ·go_simp
          constructor
          ·rfl
          ·rfl
         refine hK.out _ _ ⟨(blk_cell (blk_alloc BK425.out _) 0).trans rfl, (blk_cell (blk_alloc BK425.out _) 1).trans rfl, (blk_cell (blk_alloc BK425.out _) 2).trans rfl, (blk_cell (blk_alloc BK423.out _) 0).trans rfl, (blk_cell (blk_alloc BK423.out _) 1).trans rfl, (blk_cell (blk_alloc BK423.out _) 2).trans rfl, (blk_cell (blk_alloc BK423.out _) 3).trans rfl⟩ (fun hHeld => ?_)
         clear hK K
         refine norm_ (a' := ?_) ?_ ?_
         rotate_left
         ·show Act.put _ (some 52) _ = _
          simp only [Act.put, List.setIfInBounds_toArray, List.set_cons_zero, List.set_cons_succ, i64_w, i32_w]
          rfl
         refine one_ (i := 7) (N := some 53) #[true, true, true, true, true, true, true, true, false, false] rfl rfl (one_of HT_.out (by kernel_rfl)) (by decide) (fun K hK => ?_)
         refine Kd.R_append_step Kd.bool (w0 := w) w.heap.size (by rfl) (.tmp 47) (.tmp 52) 61 4 (.bool false) 1 rfl Try.underlying61 info4 rfl (by decide) (by omega) u426002 x426002_1 t440 [.bool t440] (fun _ => True) (fun _ => False) rfl rfl ?aP (fun _ hk => hk.elim) ?aF ?aO ?aB ?aS ?aL ?_
         (case aP => exact rfl)
         (case aB => exact (bW))
         (case aF => exact (fun _ _ => trivial))
         (case aO => exact (rP HO_426002.out))
         (case aS => exact (below_size (bW)))
         (case aL => have := LMc36.out; omega)
         intro v442 w48 ho hb hg hat
         rw [← Ny441.out] at ho
         have n0_ := Aside0.mk (blk_grown (g := gb423) (o := .cells #[.int .i64 a0_0, .int .i64 a0_1, .int .i64 a0_2, .slice A0_3 l0_3.length c0_3] 38 (0, 0)) (bP BK423.out) hg (Kd.R_ne HO_426002.out BK423.out (by decide)))
         have n1_ := Aside0.mk (blk_grown (g := gb424) (o := .cells #[.int .i64 0, .slice none 0 0, .slice none 0 0] 71 (0, 0)) (bP BK424.out) hg (Kd.R_ne HO_426002.out BK424.out (by decide)))
         have n2_ := Aside0.mk (blk_grown (g := gb425) (o := .cells #[.int .i64 a0_0, .slice Ao44 y437.length co44, u426002] 71 (0, 0)) (bP BK425.out) hg (Kd.R_ne HO_426002.out BK425.out (by decide)))
         have n3_ := Aside0.mk (Kd.S_over' (sP HO439.out) (Kd.R_typed (rP HO_426002.out)) (by decide) hg)
         have n4_ := Aside0.mk (hb)
         have n5_ := Aside0.mk (ho)
         clear BK423
         clear BK424
         clear BK425
         clear HO439
         clear HB
         clear HO_426002
         have BK423 := n0_
         have BK424 := n1_
         have BK425 := n2_
         have HO439 := n3_
         have HB := n4_
         have HO443 := n5_
         clear n0_ n1_ n2_ n3_ n4_ n5_
         clear ho hb hg hat
         obtain ⟨Ao49, co49, eo49⟩ := Kd.R_slice HO443.out
         (first | subst eo49 | (injection eo49 with f1_ f2_ f3_; have f4_ := f1_.symm; have f5_ := f3_.symm; clear f1_ f2_ f3_; subst f4_; subst f5_))
         refine hK.out _ _ ⟨(blk_cell BK425.out 0).trans rfl, (blk_cell BK425.out 1).trans rfl, (blk_cell BK425.out 2).trans rfl, (blk_cell BK423.out 0).trans rfl, (blk_cell BK423.out 1).trans rfl, (blk_cell BK423.out 2).trans rfl, (blk_cell BK423.out 3).trans rfl⟩ (fun hHeld => ?_)
         clear hK K
         refine norm_ (a' := ?_) ?_ ?_
         rotate_left
         ·show Act.put _ (some 53) _ = _
          simp only [Act.put, List.setIfInBounds_toArray, List.set_cons_zero, List.set_cons_succ, i64_w, i32_w]
          rfl
         refine pure_ (i := 8) (N := some 54) (v := ?_) (a' := ?_) #[true, true, true, true, true, true, true, true, true, false] rfl rfl (any_of HT_.out (by kernel_rfl)) (fun _ _ _ h => h) (Or.inl ⟨by rfl, ?_⟩) ?_ ?_
         rotate_left
         ·intro w'
          go_simp
          with_reducible rfl
         rotate_left
         ·simp only [Act.put, List.setIfInBounds_toArray, List.set_cons_zero, List.set_cons_succ, i64_w, i32_w]
          rfl
         refine last_ (i := 9) (N := none) #[true, true, true, true, true, true, true, true, true, true] rfl rfl (one_of HT_.out (by kernel_rfl)) (by decide) (fun K hK => ?_)
         have hs50 : w48.cell? ⟨gb425, 2, none⟩ = some (u426002) := (blk_cell BK425.out 2).trans rfl
         have hfs50 := blk_frozen BK425.out 2
         have hns50_0 := NB423_425.out
         have hns50_1 := NB424_425.out
         have hms50_0 := NB425_423.out
         have hms50_1 := NB425_424.out
         refine skip_ (w1 := ?_) (by rfl) rfl ?_ ?_
         rotate_left
         ·go_simp
          rfl
         refine hK.out _ _ ?_
         clear hK K
         refine done_ (done_of HT_.out (by kernel_rfl)) ?_
         try go_wp2
         go_roundg k2
         case measure => have := HK1.out; have := HK2.out; omega
         case rel => exact ⟨(wrap64 (x4_1 + 1)), (y437), (y441), (.slice Ao44 y437.length co44), (.slice Ao49 y441.length co49), (eW), H', ⟨by have := HK1.out; have := HK2.out; omega⟩, ⟨by (with_reducible repeat (first | apply Kd.S_alloc | apply Kd.S_drewN | apply Kd.S_drew)); exact Kd.S_mono (Kd.S_far (p := ⟨gb425, 2, none⟩) (Kd.S_types HO439.out BK425.out (by decide)) (fun _ hk => hk.2) (.slice Ao49 y441.length co49)) (fun _ hk => trivial)⟩, ⟨by (with_reducible repeat (first | apply Kd.R_alloc | apply Kd.R_drewN | apply Kd.R_drew)); exact Kd.R_mono (Kd.R_far (p := ⟨gb425, 2, none⟩) (Kd.R_types HO443.out BK425.out (by decide)) (fun _ hk => hk.2) (.slice Ao49 y441.length co49)) (fun _ hk => trivial)⟩, ⟨by (with_reducible repeat (first | refine blk_drewN ?_ _ | refine blk_drew ?_ | refine blk_alloc ?_ _)); refine blk_far ?_ NB423_425.out _; exact bP BK423.out⟩, ⟨by (with_reducible repeat (first | refine blk_drewN ?_ _ | refine blk_drew ?_ | refine blk_alloc ?_ _)); refine blk_far ?_ NB424_425.out _; exact bP BK424.out⟩, ⟨by (with_reducible repeat (first | refine blk_drewN ?_ _ | refine blk_drew ?_ | refine blk_alloc ?_ _)); refine blk_put (cs := #[.int .i64 a0_0, .slice Ao44 y437.length co44, u426002]) ?_ 2 _ rfl; exact bP BK425.out⟩, ⟨bW⟩⟩
        ·rw [if_neg c36] at H
         exact absurd H (by simp)
       ·rw [if_neg c34] at H
        exact absurd H (by simp)
   ·rw [if_neg c11] at H
    have c11b0 : decide (x4_1 < t426) = false := decide_eq_false c11
    clear c11
    simp only [Option.some.injEq, Prod.mk.injEq] at H
    obtain ⟨rfl, rfl, rfl⟩ := H
    have hnb51 := NB423_424.out
    have hnc51 := NB424_423.out
    have hnb52 := NB423_425.out
    have hnc52 := NB425_423.out
    have hcz53_0 : wr.cell? ⟨gb423, 0, none⟩ = some (.int .i64 a0_0) := (blk_cell BK423.out 0).trans rfl
    have hcz53_1 : wr.cell? ⟨gb423, 1, none⟩ = some (.int .i64 a0_1) := (blk_cell BK423.out 1).trans rfl
    have hcz53_2 : wr.cell? ⟨gb423, 2, none⟩ = some (.int .i64 a0_2) := (blk_cell BK423.out 2).trans rfl
    have hcz53_3 : wr.cell? ⟨gb423, 3, none⟩ = some (.slice A0_3 l0_3.length c0_3) := (blk_cell BK423.out 3).trans rfl
    have hfz53_0 := blk_frozen BK423.out 0
    have hfz53_1 := blk_frozen BK423.out 1
    have hfz53_2 := blk_frozen BK423.out 2
    have hfz53_3 := blk_frozen BK423.out 3
    go_wp2_with (first | ((with_reducible refine gate_callee (f := 51) rfl ?_); refine goesS (some 13) Try.func51 #[.agg #[.int .i64 a0_0, .int .i64 a0_1, .int .i64 a0_2, .slice A0_3 l0_3.length c0_3]] ?_; (with_reducible refine (spec_l11States.calls a0_0 a0_1 a0_2 _ _ l0_3 t426 _ ?side1 ?side2 A10.out).mono ?_); (case side1 => exact cP (Kd.C_below HR0_3.out HB.out)); (case side2 => exact HC0_3.out); rintro e w54 ⟨rfl, hb⟩; refine ⟨_, rfl, ?_⟩; have n0_ := Aside0.mk (Kd.S_below (sP HO_426001.out) hb); have n1_ := Aside0.mk (Kd.R_below (rP HO_426002.out) hb); have n2_ := Aside0.mk (blkB BK423.out hb); have n3_ := Aside0.mk (blkB BK424.out hb); have n4_ := Aside0.mk (blkB BK425.out hb); have n5_ := Aside0.mk (below_step (bW) hb); clear HO_426001; clear HO_426002; clear BK423; clear BK424; clear BK425; clear HB; have HO_426001 := n0_; have HO_426002 := n1_; have BK423 := n2_; have BK424 := n3_; have BK425 := n4_; have HB := n5_; clear n0_ n1_ n2_ n3_ n4_ n5_; (try clear hb); (try clear hb2); (try clear hk); (try clear hi); have hnb55 := NB425_424.out; have hnc55 := NB424_425.out; obtain ⟨hcz56_0, hcz56_1, hcz56_2⟩ := cells3 BK425.out; obtain ⟨hfz56_0, hfz56_1, hfz56_2⟩ := frz3 BK425.out; obtain ⟨hcz57_0, hcz57_1, hcz57_2⟩ := cells3 BK424.out; obtain ⟨hfz57_0, hfz57_1, hfz57_2⟩ := frz3 BK424.out; obtain ⟨Ao58, co58, eo58⟩ := Kd.S_slice HO_426001.out; subst eo58; obtain ⟨Ao59, co59, eo59⟩ := Kd.R_slice HO_426002.out; subst eo59))
    refine bodyPost_ret (results_cell_row rfl _ _ gb424 71 #[.int .i64 a0_0, .slice Ao58 x426001_1.length co58, .slice Ao59 x426002_1.length co59] (0, 0) _ rfl (by (with_reducible repeat (first | refine blk_drewN ?_ _ | refine blk_drew ?_ | refine blk_alloc ?_ _)); refine blk_put (cs := #[.int .i64 a0_0, .slice Ao58 x426001_1.length co58, .slice none 0 0]) ?_ 2 _ rfl; (with_reducible repeat (first | refine blk_drewN ?_ _ | refine blk_drew ?_ | refine blk_alloc ?_ _)); refine blk_put (cs := #[.int .i64 a0_0, .slice none 0 0, .slice none 0 0]) ?_ 1 _ rfl; (with_reducible repeat (first | refine blk_drewN ?_ _ | refine blk_drew ?_ | refine blk_alloc ?_ _)); refine blk_put (cs := #[.int .i64 0, .slice none 0 0, .slice none 0 0]) ?_ 0 _ rfl; exact bP BK424.out) Try.underlying71 rfl (by kernel_rfl)) rfl ?_
    exact ⟨_, _, eW, by (with_reducible repeat (first | apply Kd.S_alloc | apply Kd.S_drewN | apply Kd.S_drew)); exact Kd.S_mono (Kd.S_far (p := ⟨gb424, 2, none⟩) (Kd.S_far (p := ⟨gb424, 1, none⟩) (Kd.S_far (p := ⟨gb424, 0, none⟩) (Kd.S_types HO_426001.out BK424.out (by decide)) (fun _ hk => hk.2) (.int .i64 a0_0)) (fun _ hk => hk.2) (.slice Ao58 x426001_1.length co58)) (fun _ hk => hk.2) (.slice Ao59 x426002_1.length co59)) (fun _ hk => trivial), by (with_reducible repeat (first | apply Kd.R_alloc | apply Kd.R_drewN | apply Kd.R_drew)); exact Kd.R_mono (Kd.R_far (p := ⟨gb424, 2, none⟩) (Kd.R_far (p := ⟨gb424, 1, none⟩) (Kd.R_far (p := ⟨gb424, 0, none⟩) (Kd.R_types HO_426002.out BK424.out (by decide)) (fun _ hk => hk.2) (.int .i64 a0_0)) (fun _ hk => hk.2) (.slice Ao58 x426001_1.length co58)) (fun _ hk => hk.2) (.slice Ao59 x426002_1.length co59)) (fun _ hk => trivial), bW⟩

end Go.Proofs.Ytcibmpomidhgiaa.P
end M1
