import Derived.ArgAppend
import Derived.Below
import Derived.BigQuiet
import Derived.Deep.AppendLies
import Derived.Deep.CutBlock
import Derived.Deep.DeepCutAuto
import Derived.Deep.Draws
import Derived.Deep.LoopGhost
import Derived.Deep.OwnRows
import Derived.Deep.QuietTactic
import Derived.Deep.RegionHeld3
import Derived.KernelRfl
import Derived.Laws.BitsLemmas
import Derived.Laws.BytesArg
import Derived.Laws.IdiomCopy
import Derived.Laws.MakeOwn
import Derived.Laws.OwnMore
import Derived.Laws.Rows
import Derived.Laws.Slices
import Derived.Laws.StructEq
import Derived.Lib.AppendStr
import Derived.Lib.ConvBytes
import Derived.Lib.SliceRun
import Derived.Maps.AppendAt
import Derived.OrdersHeld
import Derived.OwnWalk
import Derived.RowKit
import Derived.RowKit3
import Derived.Shelf.Abstract
import Derived.Shelf.Spec.TrailingZeros
import Derived.Tactics
import Derived.Test.YthbaocejgjpfoaaDoorProg
import Derived.WalkKit
import Derived.WideLaws
import Derived.Test.YthbaocejgjpfoaaDoorCFnExpressionTexts3
import Derived.Test.YthbaocejgjpfoaaDoorCFnExpressionTexts9
section M0
namespace Go.Proofs.YthbaocejgjpfoaaDoor.P
open Go.RowKit Go.Proofs.YthbaocejgjpfoaaDoor.Sh Go.Proofs.YthbaocejgjpfoaaDoorW.PrintWords Go.Proofs.YthbaocejgjpfoaaDoorW.PrintLast Go.Proofs.YthbaocejgjpfoaaDoorW.PrintMore
attribute [local go_sem] max2_int min2_int max_two min_two max_three min_three max_four min_four   -- for this text's walks alone
set_option linter.unusedVariables false
set_option linter.unusedSimpArgs false
/-! ### spec_l02Draw: function 143 -/
mutual
def spec_l02Draw.j0 : Nat → Int → Bool → List Int → Int → Int → Option (Int × List Int × Int × Int)
 | 0, _, _, _, _, _ => none
 | k + 1, x1, x16, x1000, x1001, x1002 => if x16 = true then (some (4, (([11, 7, 14, 13] : List Int)), x1001, x1002)) else ((spec_l01Next.f x1000 x1001 x1002 (wrap64 (x1 + 1))).bind fun bt1087 => (if bt1087.1 < 2 then ((spec_l01Next.f x1000 bt1087.2.1 bt1087.2.2 (wrap64 (x1 + 1))).bind fun bt1090 => (spec_l02Draw.j1 k bt1090.1 x1000 bt1090.2.1 bt1090.2.2)) else (spec_l02Draw.j1 k bt1087.1 x1000 bt1087.2.1 bt1087.2.2)))
def spec_l02Draw.j1 : Nat → Int → List Int → Int → Int → Option (Int × List Int × Int × Int)
 | 0, _, _, _, _ => none
 | k + 1, x5, x1000, x1001, x1002 => (spec_l02Free.f k x5).bind fun bt1093 => ((spec_l01Pick.f x1000 x1001 x1002 (([2, 2, 3, 4] : List Int))).bind fun bt1100 => (spec_l02Draw.l0 k x5 bt1100.1 0 x1000 bt1100.2.1 bt1100.2.2 bt1093.1 bt1093.2))
def spec_l02Draw.l0 : Nat → Int → Int → Int → List Int → Int → Int → Int → List Int → Option (Int × List Int × Int × Int)
 | 0, _, _, _, _, _, _, _, _ => none
 | k + 1, x5, x7, x8, x1000, x1001, x1002, x1104000, x1104001 => if x8 < x5 then (spec_l02Draw.l1 k x5 x7 x8 0 x1000 x1001 x1002 x1104000 x1104001) else (some (x1104000, x1104001, x1001, x1002))
def spec_l02Draw.l1 : Nat → Int → Int → Int → Int → List Int → Int → Int → Int → List Int → Option (Int × List Int × Int × Int)
 | 0, _, _, _, _, _, _, _, _, _ => none
 | k + 1, x5, x7, x8, x9, x1000, x1001, x1002, x1104000, x1104001 => if x9 < x8 then ((spec_l01Next.f x1000 x1001 x1002 x7).bind fun bt1104 => (if bt1104.1 = 0 then ((spec_l02Join.f x1104000 x1104001 x8 x9).bind fun t1107 => (spec_l02Draw.l1 k x5 x7 x8 (wrap64 (x9 + 1)) x1000 bt1104.2.1 bt1104.2.2 x1104000 t1107)) else (spec_l02Draw.l1 k x5 x7 x8 (wrap64 (x9 + 1)) x1000 bt1104.2.1 bt1104.2.2 x1104000 x1104001))) else (spec_l02Draw.l0 k x5 x7 (wrap64 (x8 + 1)) x1000 x1001 x1002 x1104000 x1104001)
end
def spec_l02Draw.f (k : Nat) (s0_0 : List Int) (s0_1 : Int) (s0_2 : Int) (a1 : Int) : Option (Int × List Int × Int × Int) := if a1 ≥ 4 then ((spec_l01Next.f s0_0 s0_1 s0_2 6).bind fun bt1081 => (spec_l02Draw.j0 k a1 (bt1081.1 == 0) s0_0 bt1081.2.1 bt1081.2.2)) else (spec_l02Draw.j0 k a1 false s0_0 s0_1 s0_2)
set_option maxHeartbeats 8000000 in
set_option maxRecDepth 100000 in
theorem spec_l02Draw.calls (k : Nat) (g : Nat) (s0_0 : List Int) (s0_1 : Int) (s0_2 : Int) (a1 : Int) (r1 : Int) (r2 : List Int) (r3 : Int) (r4 : Int) (w0 w : World) (hI : IsS163 w0 w g s0_0 s0_1 s0_2) (hB : Below w0.heap.size w0 w) (h : spec_l02Draw.f k s0_0 s0_1 s0_2 a1 = some (r1, r2, r3, r4)) :
  Calls Tryd.prog 143 #[.pointer (some ⟨g, 0, none⟩), .int .i64 a1] w fun e w' => ∃ v1_ : Value, e = .returned (.agg #[.int .i64 r1, v1_]) ∧ Kd.R (Kd.int .i64) 2 w' w.heap.size (fun _ => True) v1_ r2 ∧ IsS163 w0 w' g s0_0 r3 r4 ∧ Below w0.heap.size w0 w' ∧ KeepBut w w' g none := by
 have hu29 := Tryd.underlying29
 have HI0 := Aside0.mk hI
 have HK := Aside0.mk (KeepBut.refl w g none)
 have HL := Aside0.mk hB.size
 clear hI
 have HW0 := Aside0.mk hB.size
 have HB := Aside0.mk hB
 clear hB
 have H : (if a1 ≥ 4 then ((spec_l01Next.f s0_0 s0_1 s0_2 6).bind fun bt1081 => (spec_l02Draw.j0 k a1 (bt1081.1 == 0) s0_0 bt1081.2.1 bt1081.2.2)) else (spec_l02Draw.j0 k a1 false s0_0 s0_1 s0_2)) = some (r1, r2, r3, r4) := h
 clear h
 have HC3 := Aside0.mk H
 clear H
 go_enter Tryd.func143, Tryd.ntmps143
 go_upto_region 1 with (first | ((with_reducible refine gate_dst (N := 4) rfl ?_); refine boxS (N := 4) (cs := #[.int .i64 0, .slice none 0 0]) (t := 29) ?_; intro gb1080 hg w4 hbox hb; have n0_ := Aside0.mk (IsS163.below (by repeat (first | (with_reducible first | exact HI0.out | apply IsS163.alloc | apply IsS163.drewN | apply IsS163.drew | apply IsS163.set_1 | apply IsS163.set_2) | exact HI0.out)) hb); have n1_ := Aside0.mk (KeepBut.trans (by repeat (first | (with_reducible first | exact HK.out | apply KeepBut.set_ | apply keep_drewN | apply keep_drew | apply keep_alloc) | exact HK.out)) (KeepBut.of_below hb g none) (.inl rfl)); have n2_ := Aside0.mk (below_step (by repeat (first | (with_reducible first | exact HB.out | apply below_alloc | apply pw_below_drewN | apply below_drew1 | refine below_set ?_ (IsS163.ge HI0.out)) | exact HB.out)) hb); have n3_ := Aside0.mk (hbox); have n4_ := Aside0.mk ((by rw [hg]; exact (keep_size (w := w) (g := g) (row := none) (by repeat (first | (with_reducible first | exact HK.out | apply KeepBut.set_ | apply keep_drewN | apply keep_drew | apply keep_alloc) | exact HK.out))) : w.heap.size ≤ gb1080)); have n5_ := Aside0.mk ((Nat.le_trans HW0.out (by rw [hg]; exact (keep_size (w := w) (g := g) (row := none) (by repeat (first | (with_reducible first | exact HK.out | apply KeepBut.set_ | apply keep_drewN | apply keep_drew | apply keep_alloc) | exact HK.out))) : w.heap.size ≤ gb1080) : w0.heap.size ≤ gb1080)); have n6_ := Aside0.mk ((by rw [hg]; exact Nat.ne_of_lt (IsS163.lt (show IsS163 w0 _ g s0_0 s0_1 s0_2 from by repeat (first | (with_reducible first | exact HI0.out | apply IsS163.alloc | apply IsS163.drewN | apply IsS163.drew | apply IsS163.set_1 | apply IsS163.set_2) | exact HI0.out))) : g ≠ gb1080)); have n7_ := Aside0.mk ((by rw [hg]; exact Nat.ne_of_gt (IsS163.lt (show IsS163 w0 _ g s0_0 s0_1 s0_2 from by repeat (first | (with_reducible first | exact HI0.out | apply IsS163.alloc | apply IsS163.drewN | apply IsS163.drew | apply IsS163.set_1 | apply IsS163.set_2) | exact HI0.out))) : gb1080 ≠ g)); clear HI0 HK HB; have HI0 := n0_; have HK := n1_; have HB := n2_; have BK1080 := n3_; have GW1080 := n4_; have GE1080 := n5_; have NB0_1080 := n6_; have NB1080_0 := n7_; clear n0_ n1_ n2_ n3_ n4_ n5_ n6_ n7_ hb hbox hg))
 (try simp only [Act.put, List.setIfInBounds_toArray, List.set_cons_zero, List.set_cons_succ])
 go_cut [16] (fun v16 wc => ∃ (kq : Nat) (x16_2 : Bool) (x1001_2 : Int) (x1002_2 : Int), v16 = .bool x16_2 ∧ Aside0 (spec_l02Draw.j0 kq a1 x16_2 s0_0 x1001_2 x1002_2 = some (r1, r2, r3, r4)) ∧ Aside0 (kq ≤ k) ∧ Aside0 (wc.heap[gb1080]? = some (.cells #[.int .i64 0, (.slice none 0 0)] 29 (0, 0))) ∧ Aside0 (IsS163 w0 wc g s0_0 x1001_2 x1002_2) ∧ Aside0 (KeepBut w wc g none) ∧ Aside0 (Below w0.heap.size w0 wc))
 case first =>
  have H := HC3.out
  clear HC3
  by_cases c5 : a1 ≥ 4
  ·rw [if_pos c5] at H
   have c5b0 : decide (4 ≤ a1) = true := decide_eq_true c5
   clear c5
   (first | rw [c5b0] | (simp only [i64_w, i32_w]; rw [c5b0]) | skip)
   replace H := Option.bind_eq_some_iff.mp H
   obtain ⟨⟨t1081, t1082, t1083⟩, A60, H⟩ := H
   replace H : (spec_l02Draw.j0 k a1 (t1081 == 0) s0_0 t1082 t1083) = some (r1, r2, r3, r4) := H
   have A6 := Aside0.mk A60
   clear A60
   have H' := Aside0.mk H
   clear H
   go_wp2_with (first | (go_at_call 97; (with_reducible refine (spec_l01Next.calls g s0_0 s0_1 s0_2 6 t1081 t1082 t1083 w0 _ ?side1 ?side2 A6.out).mono ?_); (case side1 => repeat (first | (with_reducible first | exact HI0.out | apply IsS163.alloc | apply IsS163.drewN | apply IsS163.drew | apply IsS163.set_1 | apply IsS163.set_2 | refine IsS163.far ?_ NB0_1080.out _) | exact HI0.out)); (case side2 => repeat (first | (with_reducible first | exact HB.out | apply below_alloc | apply pw_below_drewN | apply below_drew1 | refine below_set ?_ (IsS163.ge HI0.out) | refine below_set ?_ GE1080.out) | exact HB.out)); rintro e w7 ⟨rfl, hi, hb, hk⟩; have n0_ := Aside0.mk (KeepBut.blk hk (g' := gb1080) (o := .cells #[.int .i64 0, .slice none 0 0] 29 (0, 0)) (bP BK1080.out) NB1080_0.out (by simp)); have n1_ := Aside0.mk (KeepBut.trans (by repeat (first | (with_reducible first | exact HK.out | apply KeepBut.set_ | apply keep_drewN | apply keep_drew | apply keep_alloc | refine keep_far ?_ GW1080.out _) | exact HK.out)) hk (.inl rfl)); have n2_ := Aside0.mk (hb); have n3_ := Aside0.mk (hi); clear BK1080 HK HB HI0; have BK1080 := n0_; have HK := n1_; have HB := n2_; have HI0 := n3_; clear n0_ n1_ n2_ n3_; (try clear hb); (try clear hb2); (try clear hk); (try clear hi)))
   go_meet
   case rel => exact ⟨_, ((t1081 == 0)), (t1082), (t1083), (eW), H', ⟨by first | omega | exact Nat.le_refl _⟩, ⟨(bP BK1080.out)⟩, ⟨by repeat (first | (with_reducible first | exact HI0.out | apply IsS163.alloc | apply IsS163.drewN | apply IsS163.drew | apply IsS163.set_1 | apply IsS163.set_2 | refine IsS163.far ?_ NB0_1080.out _) | exact HI0.out)⟩, ⟨by repeat (first | (with_reducible first | exact HK.out | apply KeepBut.set_ | apply keep_drewN | apply keep_drew | apply keep_alloc | refine keep_far ?_ GW1080.out _) | exact HK.out)⟩, ⟨by repeat (first | (with_reducible first | exact HB.out | apply below_alloc | apply pw_below_drewN | apply below_drew1 | refine below_set ?_ (IsS163.ge HI0.out) | refine below_set ?_ GE1080.out) | exact HB.out)⟩⟩
  ·rw [if_neg c5] at H
   have c5b0 : decide (4 ≤ a1) = false := decide_eq_false c5
   clear c5
   (first | rw [c5b0] | (simp only [i64_w, i32_w]; rw [c5b0]) | skip)
   have H' := Aside0.mk H
   clear H
   go_wp2
   go_meet
   case rel => exact ⟨_, (false), (s0_1), (s0_2), (eW), H', ⟨by first | omega | exact Nat.le_refl _⟩, ⟨(bP BK1080.out)⟩, ⟨by repeat (first | (with_reducible first | exact HI0.out | apply IsS163.alloc | apply IsS163.drewN | apply IsS163.drew | apply IsS163.set_1 | apply IsS163.set_2 | refine IsS163.far ?_ NB0_1080.out _) | exact HI0.out)⟩, ⟨by repeat (first | (with_reducible first | exact HK.out | apply KeepBut.set_ | apply keep_drewN | apply keep_drew | apply keep_alloc | refine keep_far ?_ GW1080.out _) | exact HK.out)⟩, ⟨by repeat (first | (with_reducible first | exact HB.out | apply below_alloc | apply pw_below_drewN | apply below_drew1 | refine below_set ?_ (IsS163.ge HI0.out) | refine below_set ?_ GE1080.out) | exact HB.out)⟩⟩
 case rest =>
  clear HC3
  try clear c1
  try clear p2
  try clear c5
  try clear c5b0
  obtain ⟨kq, x16_2, x1001_2, x1002_2, rfl, HA, HJ2, BK1080, HI0, HK, HB⟩ := hcut
  cases kq with
  | zero => exact absurd HA.out (by simp [spec_l02Draw.j0])
  | succ kj2 =>
   have H := HA.out
   clear HA
   simp only [spec_l02Draw.j0] at H
   by_cases c8 : x16_2 = true
   ·subst c8
    have H1 : (some (4, (([11, 7, 14, 13] : List Int)), x1001_2, x1002_2)) = some (r1, r2, r3, r4) := by rw [if_pos rfl] at H; exact H
    clear H
    have H := H1
    clear H1
    obtain ⟨y1084, hy1084⟩ : ∃ y_ : List Int, y_ = (([11, 7, 14, 13] : List Int)) := ⟨_, rfl⟩
    replace H : (some (4, y1084, x1001_2, x1002_2)) = some (r1, r2, r3, r4) := by first | (rw [hy1084]; with_reducible exact H) | (have H2_ := (Option.bind_some _ _).symm.trans H; rw [hy1084]; with_reducible exact H2_) | (have H2_ := (Option.bind_some _ _).symm.trans H; with_reducible exact H2_) | with_reducible exact H | (rw [hy1084]; exact H) | exact H
    have Ny1084 := Aside0.mk hy1084
    clear hy1084
    simp only [Option.some.injEq, Prod.mk.injEq] at H
    obtain ⟨rfl, rfl, rfl, rfl⟩ := H
    go_wp2_with (first | ((with_reducible refine gate_dst (N := 17) rfl ?_); refine Kd.R_lit (Kd.int .i64) _ 2 ?hg (N := 17) ?hd (xs := ([11, 7, 14, 13] : List Int)) (inner := [.int .i64 11, .int .i64 7, .int .i64 14, .int .i64 13]) (ok := fun _ => True) (okp := fun _ => True) ?hr ?hp (fun _ hk => hk) trivial (Below.refl _ _) (Nat.le_refl _) (by simp) ?_; (case hd => rfl); (case hg => rfl); (case hr => first | (go_simp; done) | (go_simp; rfl)); (case hp => exact (Reps.one (show Kd.M (Kd.int .i64) _ _ _ 11 [.int .i64 11] from rfl) (Reps.one (show Kd.M (Kd.int .i64) _ _ _ 7 [.int .i64 7] from rfl) (Reps.one (show Kd.M (Kd.int .i64) _ _ _ 14 [.int .i64 14] from rfl) (Reps.one (show Kd.M (Kd.int .i64) _ _ _ 13 [.int .i64 13] from rfl) (Reps.none _ _)))))); intro v1085 w9 ho10 hb hg_ hnew_; clear hg_ hnew_; (first | rw [← Ny1084.out] at ho10 | (simp only [Int.reduceToNat] at ho10; rw [← Ny1084.out] at ho10)); have n0_ := Aside0.mk (Kd.R_lower ho10 (keep_size (w := w) (g := g) (row := none) (by repeat (first | (with_reducible first | exact HK.out | apply KeepBut.set_ | apply keep_drewN | apply keep_drew | apply keep_alloc | refine keep_far ?_ GW1080.out _) | exact HK.out)))); have n1_ := Aside0.mk (blkB BK1080.out hb); have n2_ := Aside0.mk (IsS163.below (by repeat (first | (with_reducible first | exact HI0.out | apply IsS163.alloc | apply IsS163.drewN | apply IsS163.drew | apply IsS163.set_1 | apply IsS163.set_2 | refine IsS163.far ?_ NB0_1080.out _) | exact HI0.out)) hb); have n3_ := Aside0.mk (KeepBut.trans (by repeat (first | (with_reducible first | exact HK.out | apply KeepBut.set_ | apply keep_drewN | apply keep_drew | apply keep_alloc | refine keep_far ?_ GW1080.out _) | exact HK.out)) (KeepBut.of_below hb g none) (.inl rfl)); have n4_ := Aside0.mk (below_step (by repeat (first | (with_reducible first | exact HB.out | apply below_alloc | apply pw_below_drewN | apply below_drew1 | refine below_set ?_ (IsS163.ge HI0.out) | refine below_set ?_ GE1080.out) | exact HB.out)) hb); clear BK1080 HI0 HK HB; have HO1086 := n0_; have BK1080 := n1_; have HI0 := n2_; have HK := n3_; have HB := n4_; clear n0_ n1_ n2_ n3_ n4_ hb ho10; obtain ⟨Ao11, co11, eo11⟩ := Kd.R_slice HO1086.out; subst eo11; have hnb12 := NB1080_0.out; have hnc12 := NB0_1080.out; obtain ⟨hcz13_0, hcz13_1⟩ := cells2 BK1080.out; obtain ⟨hfz13_0, hfz13_1⟩ := frz2 BK1080.out))
    refine bodyPost_ret (results_cell_row rfl _ _ gb1080 29 #[.int .i64 4, .slice Ao11 y1084.length co11] (0, 0) _ rfl (by (with_reducible repeat (first | refine blk_drewN ?_ _ | refine blk_drew ?_ | refine blk_alloc ?_ _)); refine blk_put (cs := #[.int .i64 4, .slice none 0 0]) ?_ 1 _ rfl; (with_reducible repeat (first | refine blk_drewN ?_ _ | refine blk_drew ?_ | refine blk_alloc ?_ _)); refine blk_put (cs := #[.int .i64 0, .slice none 0 0]) ?_ 0 _ rfl; exact bP BK1080.out) Tryd.underlying29 rfl (by kernel_rfl)) rfl ?_
    exact ⟨_, eW, by (with_reducible repeat (first | apply Kd.R_alloc | apply Kd.R_drewN | apply Kd.R_drew)); exact Kd.R_mono (Kd.R_far (p := ⟨gb1080, 1, none⟩) (Kd.R_far (p := ⟨gb1080, 0, none⟩) (Kd.R_types HO1086.out BK1080.out (by decide)) (fun _ hk => hk.2) (.int .i64 4)) (fun _ hk => hk.2) (.slice Ao11 y1084.length co11)) (fun _ hk => trivial), by repeat (first | (with_reducible first | exact HI0.out | apply IsS163.alloc | apply IsS163.drewN | apply IsS163.drew | apply IsS163.set_1 | apply IsS163.set_2 | refine IsS163.far ?_ NB0_1080.out _) | exact HI0.out), by repeat (first | (with_reducible first | exact HB.out | apply below_alloc | apply pw_below_drewN | apply below_drew1 | refine below_set ?_ (IsS163.ge HI0.out) | refine below_set ?_ GE1080.out) | exact HB.out), by repeat (first | (with_reducible first | exact HK.out | apply KeepBut.set_ | apply keep_drewN | apply keep_drew | apply keep_alloc | refine keep_far ?_ GW1080.out _) | exact HK.out)⟩
   ·replace c8 := Bool.eq_false_iff.mpr c8
    subst c8
    have H1 : ((spec_l01Next.f s0_0 x1001_2 x1002_2 (wrap64 (a1 + 1))).bind fun bt1087 => (if bt1087.1 < 2 then ((spec_l01Next.f s0_0 bt1087.2.1 bt1087.2.2 (wrap64 (a1 + 1))).bind fun bt1090 => (spec_l02Draw.j1 kj2 bt1090.1 s0_0 bt1090.2.1 bt1090.2.2)) else (spec_l02Draw.j1 kj2 bt1087.1 s0_0 bt1087.2.1 bt1087.2.2))) = some (r1, r2, r3, r4) := by rw [if_neg (show ¬ (false = true) by decide)] at H; exact H
    clear H
    have H := H1
    clear H1
    replace H := Option.bind_eq_some_iff.mp H
    obtain ⟨⟨t1087, t1088, t1089⟩, A140, H⟩ := H
    replace H : (if t1087 < 2 then ((spec_l01Next.f s0_0 t1088 t1089 (wrap64 (a1 + 1))).bind fun bt1090 => (spec_l02Draw.j1 kj2 bt1090.1 s0_0 bt1090.2.1 bt1090.2.2)) else (spec_l02Draw.j1 kj2 t1087 s0_0 t1088 t1089)) = some (r1, r2, r3, r4) := H
    have A14 := Aside0.mk A140
    clear A140
    have HC15 := Aside0.mk H
    clear H
    go_upto_if 24 with (first | ((with_reducible refine gate_callee (f := 97) rfl ?_); refine goesS (some 22) Tryd.func97 #[.pointer (some ⟨g, 0, none⟩), .int .i64 (wrap64 (a1 + 1))] ?_; (with_reducible refine (spec_l01Next.calls g s0_0 x1001_2 x1002_2 (wrap64 (a1 + 1)) t1087 t1088 t1089 w0 _ ?side1 ?side2 A14.out).mono ?_); (case side1 => repeat (first | (with_reducible first | exact HI0.out | apply IsS163.alloc | apply IsS163.drewN | apply IsS163.drew | apply IsS163.set_1 | apply IsS163.set_2 | refine IsS163.far ?_ NB0_1080.out _) | exact HI0.out)); (case side2 => repeat (first | (with_reducible first | exact HB.out | apply below_alloc | apply pw_below_drewN | apply below_drew1 | refine below_set ?_ (IsS163.ge HI0.out) | refine below_set ?_ GE1080.out) | exact HB.out)); rintro e w16 ⟨rfl, hi, hb, hk⟩; refine ⟨_, rfl, ?_⟩; have n0_ := Aside0.mk (KeepBut.blk hk (g' := gb1080) (o := .cells #[.int .i64 0, .slice none 0 0] 29 (0, 0)) (bP BK1080.out) NB1080_0.out (by simp)); have n1_ := Aside0.mk (KeepBut.trans (by repeat (first | (with_reducible first | exact HK.out | apply KeepBut.set_ | apply keep_drewN | apply keep_drew | apply keep_alloc | refine keep_far ?_ GW1080.out _) | exact HK.out)) hk (.inl rfl)); have n2_ := Aside0.mk (hb); have n3_ := Aside0.mk (hi); clear BK1080 HK HB HI0; have BK1080 := n0_; have HK := n1_; have HB := n2_; have HI0 := n3_; clear n0_ n1_ n2_ n3_; (try clear hb); (try clear hb2); (try clear hk); (try clear hi)))
    (try simp only [Act.put, List.setIfInBounds_toArray, List.set_cons_zero, List.set_cons_succ])
    go_cut [5] (fun v5 wc => ∃ (kq : Nat) (x5_14 : Int) (x1001_14 : Int) (x1002_14 : Int), v5 = .int .i64 x5_14 ∧ Aside0 (spec_l02Draw.j1 kq x5_14 s0_0 x1001_14 x1002_14 = some (r1, r2, r3, r4)) ∧ Aside0 (kq ≤ kj2) ∧ Aside0 (wc.heap[gb1080]? = some (.cells #[.int .i64 0, (.slice none 0 0)] 29 (0, 0))) ∧ Aside0 (IsS163 w0 wc g s0_0 x1001_14 x1002_14) ∧ Aside0 (KeepBut w wc g none) ∧ Aside0 (Below w0.heap.size w0 wc))
    case first =>
     have H := HC15.out
     clear HC15
     by_cases c17 : t1087 < 2
     ·rw [if_pos c17] at H
      have c17b0 : decide (t1087 < 2) = true := decide_eq_true c17
      clear c17
      (first | rw [c17b0] | (simp only [i64_w, i32_w]; rw [c17b0]) | skip)
      replace H := Option.bind_eq_some_iff.mp H
      obtain ⟨⟨t1090, t1091, t1092⟩, A180, H⟩ := H
      replace H : (spec_l02Draw.j1 kj2 t1090 s0_0 t1091 t1092) = some (r1, r2, r3, r4) := H
      have A18 := Aside0.mk A180
      clear A180
      have H' := Aside0.mk H
      clear H
      go_wp2_with (first | ((with_reducible refine gate_callee (f := 97) rfl ?_); refine goesS (some 28) Tryd.func97 #[.pointer (some ⟨g, 0, none⟩), .int .i64 (wrap64 (a1 + 1))] ?_; (with_reducible refine (spec_l01Next.calls g s0_0 t1088 t1089 (wrap64 (a1 + 1)) t1090 t1091 t1092 w0 _ ?side1 ?side2 A18.out).mono ?_); (case side1 => repeat (first | (with_reducible first | exact HI0.out | apply IsS163.alloc | apply IsS163.drewN | apply IsS163.drew | apply IsS163.set_1 | apply IsS163.set_2 | refine IsS163.far ?_ NB0_1080.out _) | exact HI0.out)); (case side2 => repeat (first | (with_reducible first | exact HB.out | apply below_alloc | apply pw_below_drewN | apply below_drew1 | refine below_set ?_ (IsS163.ge HI0.out) | refine below_set ?_ GE1080.out) | exact HB.out)); rintro e w19 ⟨rfl, hi, hb, hk⟩; refine ⟨_, rfl, ?_⟩; have n0_ := Aside0.mk (KeepBut.blk hk (g' := gb1080) (o := .cells #[.int .i64 0, .slice none 0 0] 29 (0, 0)) (bP BK1080.out) NB1080_0.out (by simp)); have n1_ := Aside0.mk (KeepBut.trans (by repeat (first | (with_reducible first | exact HK.out | apply KeepBut.set_ | apply keep_drewN | apply keep_drew | apply keep_alloc | refine keep_far ?_ GW1080.out _) | exact HK.out)) hk (.inl rfl)); have n2_ := Aside0.mk (hb); have n3_ := Aside0.mk (hi); clear BK1080 HK HB HI0; have BK1080 := n0_; have HK := n1_; have HB := n2_; have HI0 := n3_; clear n0_ n1_ n2_ n3_; (try clear hb); (try clear hb2); (try clear hk); (try clear hi)))
      go_meet
      case rel => exact ⟨_, (t1090), (t1091), (t1092), (eW), H', ⟨by have := HJ2.out; first | omega | exact Nat.le_refl _⟩, ⟨(bP BK1080.out)⟩, ⟨by repeat (first | (with_reducible first | exact HI0.out | apply IsS163.alloc | apply IsS163.drewN | apply IsS163.drew | apply IsS163.set_1 | apply IsS163.set_2 | refine IsS163.far ?_ NB0_1080.out _) | exact HI0.out)⟩, ⟨by repeat (first | (with_reducible first | exact HK.out | apply KeepBut.set_ | apply keep_drewN | apply keep_drew | apply keep_alloc | refine keep_far ?_ GW1080.out _) | exact HK.out)⟩, ⟨by repeat (first | (with_reducible first | exact HB.out | apply below_alloc | apply pw_below_drewN | apply below_drew1 | refine below_set ?_ (IsS163.ge HI0.out) | refine below_set ?_ GE1080.out) | exact HB.out)⟩⟩
     ·rw [if_neg c17] at H
      have c17b0 : decide (t1087 < 2) = false := decide_eq_false c17
      clear c17
      (first | rw [c17b0] | (simp only [i64_w, i32_w]; rw [c17b0]) | skip)
      have H' := Aside0.mk H
      clear H
      go_wp2
      go_meet
      case rel => exact ⟨_, (t1087), (t1088), (t1089), (eW), H', ⟨by have := HJ2.out; first | omega | exact Nat.le_refl _⟩, ⟨(bP BK1080.out)⟩, ⟨by repeat (first | (with_reducible first | exact HI0.out | apply IsS163.alloc | apply IsS163.drewN | apply IsS163.drew | apply IsS163.set_1 | apply IsS163.set_2 | refine IsS163.far ?_ NB0_1080.out _) | exact HI0.out)⟩, ⟨by repeat (first | (with_reducible first | exact HK.out | apply KeepBut.set_ | apply keep_drewN | apply keep_drew | apply keep_alloc | refine keep_far ?_ GW1080.out _) | exact HK.out)⟩, ⟨by repeat (first | (with_reducible first | exact HB.out | apply below_alloc | apply pw_below_drewN | apply below_drew1 | refine below_set ?_ (IsS163.ge HI0.out) | refine below_set ?_ GE1080.out) | exact HB.out)⟩⟩
    case rest =>
     clear HC15
     try clear c1
     try clear p2
     try clear c5
     try clear c5b0
     try clear p6
     try clear c8
     try clear c9
     try clear c12
     try clear c14
     try clear c17
     try clear c17b0
     try clear hcz13_0
     try clear hcz13_1
     try clear hfz13_0
     try clear hfz13_1
     try clear p2
     obtain ⟨kq, x5_14, x1001_14, x1002_14, rfl, HA, HJ14, BK1080, HI0, HK, HB⟩ := hcut
     cases kq with
     | zero => exact absurd HA.out (by simp [spec_l02Draw.j1])
     | succ kj14 =>
      have H := HA.out
      clear HA
      simp only [spec_l02Draw.j1] at H
      replace H := Option.bind_eq_some_iff.mp H
      obtain ⟨⟨t1093, t1094⟩, A200, H⟩ := H
      replace H : ((spec_l01Pick.f s0_0 x1001_14 x1002_14 (([2, 2, 3, 4] : List Int))).bind fun bt1100 => (spec_l02Draw.l0 kj14 x5_14 bt1100.1 0 s0_0 bt1100.2.1 bt1100.2.2 t1093 t1094)) = some (r1, r2, r3, r4) := H
      have A20 := Aside0.mk A200
      clear A200
      obtain ⟨y1097, hy1097⟩ : ∃ y_ : List Int, y_ = (([2, 2, 3, 4] : List Int)) := ⟨_, rfl⟩
      replace H : ((spec_l01Pick.f s0_0 x1001_14 x1002_14 y1097).bind fun bt1100 => (spec_l02Draw.l0 kj14 x5_14 bt1100.1 0 s0_0 bt1100.2.1 bt1100.2.2 t1093 t1094)) = some (r1, r2, r3, r4) := by first | (rw [hy1097]; with_reducible exact H) | (have H2_ := (Option.bind_some _ _).symm.trans H; rw [hy1097]; with_reducible exact H2_) | (have H2_ := (Option.bind_some _ _).symm.trans H; with_reducible exact H2_) | with_reducible exact H | (rw [hy1097]; exact H) | exact H
      have Ny1097 := Aside0.mk hy1097
      clear hy1097
      replace H := Option.bind_eq_some_iff.mp H
      obtain ⟨⟨t1100, t1101, t1102⟩, A210, H⟩ := H
      replace H : (spec_l02Draw.l0 kj14 x5_14 t1100 0 s0_0 t1101 t1102 t1093 t1094) = some (r1, r2, r3, r4) := H
      have A21 := Aside0.mk A210
      clear A210
      have H' := Aside0.mk H
      clear H
      go_wp2_with (first | ((with_reducible refine gate_callee (f := 162) rfl ?_); refine goesS (some 30) Tryd.func162 #[.int .i64 x5_14] ?_; (with_reducible refine (spec_l02Free.calls kj14 x5_14 t1093 t1094 _ A20.out).mono ?_); rintro e w22 ⟨v1095, rfl, ho0, hb⟩; refine ⟨_, rfl, ?_⟩; have n0_ := Aside0.mk (Kd.R_lower ho0 (keep_size (w := w) (g := g) (row := none) (by repeat (first | (with_reducible first | exact HK.out | apply KeepBut.set_ | apply keep_drewN | apply keep_drew | apply keep_alloc | refine keep_far ?_ GW1080.out _) | exact HK.out)))); have n1_ := Aside0.mk (blkB BK1080.out hb); have n2_ := Aside0.mk (IsS163.below (by repeat (first | (with_reducible first | exact HI0.out | apply IsS163.alloc | apply IsS163.drewN | apply IsS163.drew | apply IsS163.set_1 | apply IsS163.set_2 | refine IsS163.far ?_ NB0_1080.out _) | exact HI0.out)) hb); have n3_ := Aside0.mk (KeepBut.trans (by repeat (first | (with_reducible first | exact HK.out | apply KeepBut.set_ | apply keep_drewN | apply keep_drew | apply keep_alloc | refine keep_far ?_ GW1080.out _) | exact HK.out)) (KeepBut.of_below hb g none) (.inl rfl)); have n4_ := Aside0.mk (below_step (by repeat (first | (with_reducible first | exact HB.out | apply below_alloc | apply pw_below_drewN | apply below_drew1 | refine below_set ?_ (IsS163.ge HI0.out) | refine below_set ?_ GE1080.out) | exact HB.out)) hb); clear BK1080 HI0 HK HB; have HO1096 := n0_; have BK1080 := n1_; have HI0 := n2_; have HK := n3_; have HB := n4_; clear n0_ n1_ n2_ n3_ n4_; (try clear hb); (try clear hb2); (try clear hk); (try clear hi); (try clear ho0)) | ((with_reducible refine gate_dst (N := 32) rfl ?_); refine Kd.R_lit (Kd.int .i64) _ 2 ?hg (N := 32) ?hd (xs := ([2, 2, 3, 4] : List Int)) (inner := [.int .i64 2, .int .i64 2, .int .i64 3, .int .i64 4]) (ok := fun _ => True) (okp := fun _ => True) ?hr ?hp (fun _ hk => hk) trivial (Below.refl _ _) (Nat.le_refl _) (by simp) ?_; (case hd => rfl); (case hg => rfl); (case hr => first | (go_simp; done) | (go_simp; rfl)); (case hp => exact (Reps.one (show Kd.M (Kd.int .i64) _ _ _ 2 [.int .i64 2] from rfl) (Reps.one (show Kd.M (Kd.int .i64) _ _ _ 2 [.int .i64 2] from rfl) (Reps.one (show Kd.M (Kd.int .i64) _ _ _ 3 [.int .i64 3] from rfl) (Reps.one (show Kd.M (Kd.int .i64) _ _ _ 4 [.int .i64 4] from rfl) (Reps.none _ _)))))); intro v1098 w23 ho24 hb hg_ hnew_; clear hg_ hnew_; (first | rw [← Ny1097.out] at ho24 | (simp only [Int.reduceToNat] at ho24; rw [← Ny1097.out] at ho24)); have n0_ := Aside0.mk (Kd.R_elder' (rP HO1096.out) (Kd.R_base ho24) hb); have n1_ := Aside0.mk (Kd.R_lower (Kd.R_new' ho24 (Kd.R_lt (rP HO1096.out))) (keep_size (w := w) (g := g) (row := none) (by repeat (first | (with_reducible first | exact HK.out | apply KeepBut.set_ | apply keep_drewN | apply keep_drew | apply keep_alloc | refine keep_far ?_ GW1080.out _) | exact HK.out)))); have n2_ := Aside0.mk (blkB BK1080.out hb); have n3_ := Aside0.mk (IsS163.below (by repeat (first | (with_reducible first | exact HI0.out | apply IsS163.alloc | apply IsS163.drewN | apply IsS163.drew | apply IsS163.set_1 | apply IsS163.set_2 | refine IsS163.far ?_ NB0_1080.out _) | exact HI0.out)) hb); have n4_ := Aside0.mk (KeepBut.trans (by repeat (first | (with_reducible first | exact HK.out | apply KeepBut.set_ | apply keep_drewN | apply keep_drew | apply keep_alloc | refine keep_far ?_ GW1080.out _) | exact HK.out)) (KeepBut.of_below hb g none) (.inl rfl)); have n5_ := Aside0.mk (below_step (by repeat (first | (with_reducible first | exact HB.out | apply below_alloc | apply pw_below_drewN | apply below_drew1 | refine below_set ?_ (IsS163.ge HI0.out) | refine below_set ?_ GE1080.out) | exact HB.out)) hb); clear HO1096 BK1080 HI0 HK HB; have HO1096 := n0_; have HO1099 := n1_; have BK1080 := n2_; have HI0 := n3_; have HK := n4_; have HB := n5_; clear n0_ n1_ n2_ n3_ n4_ n5_ hb ho24; obtain ⟨Ao25, co25, eo25⟩ := Kd.R_slice HO1099.out; subst eo25) | ((with_reducible refine gate_callee (f := 163) rfl ?_); refine goesS (some 33) Tryd.func163 #[.pointer (some ⟨g, 0, none⟩), .slice Ao25 y1097.length co25] ?_; (with_reducible refine (spec_l01Pick.calls g s0_0 x1001_14 x1002_14 _ _ y1097 t1100 t1101 t1102 w0 _ ?side1 ?side2 ?side3 ?side4 ?side5 A21.out).mono ?_); (case side1 => repeat (first | (with_reducible first | exact HI0.out | apply IsS163.alloc | apply IsS163.drewN | apply IsS163.drew | apply IsS163.set_1 | apply IsS163.set_2 | refine IsS163.far ?_ NB0_1080.out _) | exact HI0.out)); (case side2 => repeat (first | (with_reducible first | exact HB.out | apply below_alloc | apply pw_below_drewN | apply below_drew1 | refine below_set ?_ (IsS163.ge HI0.out) | refine below_set ?_ GE1080.out) | exact HB.out)); (case side3 => exact cP ((Kd.R_reads' HO1099.out).2.2)); (case side4 => exact (Kd.R_reads' HO1099.out).2.1); (case side5 => exact far_slice (IsS163.own_ne HI0.out HO1099.out (by decide))); rintro e w26 ⟨rfl, hi, hb, hk⟩; refine ⟨_, rfl, ?_⟩; have n0_ := Aside0.mk (KeepBut.blk hk (g' := gb1080) (o := .cells #[.int .i64 0, .slice none 0 0] 29 (0, 0)) (bP BK1080.out) NB1080_0.out (by simp)); have n1_ := Aside0.mk (Kd.R_mono (Kd.R_keep (IsS163.apart (show IsS163 w0 _ g s0_0 x1001_14 x1002_14 from by repeat (first | (with_reducible first | exact HI0.out | apply IsS163.alloc | apply IsS163.drewN | apply IsS163.drew | apply IsS163.set_1 | apply IsS163.set_2 | refine IsS163.far ?_ NB0_1080.out _) | exact HI0.out)) (rP HO1096.out) (by decide)) hk (fun _ h => h.2)) (fun _ h => h.1)); have n2_ := Aside0.mk (Kd.R_mono (Kd.R_keep (IsS163.apart (show IsS163 w0 _ g s0_0 x1001_14 x1002_14 from by repeat (first | (with_reducible first | exact HI0.out | apply IsS163.alloc | apply IsS163.drewN | apply IsS163.drew | apply IsS163.set_1 | apply IsS163.set_2 | refine IsS163.far ?_ NB0_1080.out _) | exact HI0.out)) (rP HO1099.out) (by decide)) hk (fun _ h => h.2)) (fun _ h => h.1)); have n3_ := Aside0.mk (KeepBut.trans (by repeat (first | (with_reducible first | exact HK.out | apply KeepBut.set_ | apply keep_drewN | apply keep_drew | apply keep_alloc | refine keep_far ?_ GW1080.out _) | exact HK.out)) hk (.inl rfl)); have n4_ := Aside0.mk (hb); have n5_ := Aside0.mk (hi); clear BK1080 HO1096 HO1099 HK HB HI0; have BK1080 := n0_; have HO1096 := n1_; have HO1099 := n2_; have HK := n3_; have HB := n4_; have HI0 := n5_; clear n0_ n1_ n2_ n3_ n4_ n5_; (try clear hb); (try clear hb2); (try clear hk); (try clear hi)) | ((with_reducible refine gate_dst (N := 6) rfl ?_); refine boxS (N := 6) (cs := #[.int .i64 0, .slice none 0 0]) (t := 29) ?_; intro gb1103 hg w27 hbox hb; have n0_ := Aside0.mk (Kd.R_below (rP HO1096.out) hb); have n1_ := Aside0.mk (Kd.R_below (rP HO1099.out) hb); have n2_ := Aside0.mk (blkB BK1080.out hb); have n3_ := Aside0.mk (IsS163.below (by repeat (first | (with_reducible first | exact HI0.out | apply IsS163.alloc | apply IsS163.drewN | apply IsS163.drew | apply IsS163.set_1 | apply IsS163.set_2 | refine IsS163.far ?_ NB0_1080.out _) | exact HI0.out)) hb); have n4_ := Aside0.mk (KeepBut.trans (by repeat (first | (with_reducible first | exact HK.out | apply KeepBut.set_ | apply keep_drewN | apply keep_drew | apply keep_alloc | refine keep_far ?_ GW1080.out _) | exact HK.out)) (KeepBut.of_below hb g none) (.inl rfl)); have n5_ := Aside0.mk (below_step (by repeat (first | (with_reducible first | exact HB.out | apply below_alloc | apply pw_below_drewN | apply below_drew1 | refine below_set ?_ (IsS163.ge HI0.out) | refine below_set ?_ GE1080.out) | exact HB.out)) hb); have n6_ := Aside0.mk (hbox); have n7_ := Aside0.mk ((by rw [hg]; exact (keep_size (w := w) (g := g) (row := none) (by repeat (first | (with_reducible first | exact HK.out | apply KeepBut.set_ | apply keep_drewN | apply keep_drew | apply keep_alloc | refine keep_far ?_ GW1080.out _) | exact HK.out))) : w.heap.size ≤ gb1103)); have n8_ := Aside0.mk ((Nat.le_trans HW0.out (by rw [hg]; exact (keep_size (w := w) (g := g) (row := none) (by repeat (first | (with_reducible first | exact HK.out | apply KeepBut.set_ | apply keep_drewN | apply keep_drew | apply keep_alloc | refine keep_far ?_ GW1080.out _) | exact HK.out))) : w.heap.size ≤ gb1103) : w0.heap.size ≤ gb1103)); have n9_ := Aside0.mk ((by rw [hg]; exact Nat.ne_of_lt (blk_lt (g := gb1080) (o := .cells #[.int .i64 0, .slice none 0 0] 29 (0, 0)) (bP BK1080.out)) : gb1080 ≠ gb1103)); have n10_ := Aside0.mk ((by rw [hg]; exact Nat.ne_of_gt (blk_lt (g := gb1080) (o := .cells #[.int .i64 0, .slice none 0 0] 29 (0, 0)) (bP BK1080.out)) : gb1103 ≠ gb1080)); have n11_ := Aside0.mk ((by rw [hg]; exact Nat.ne_of_lt (IsS163.lt (show IsS163 w0 _ g s0_0 t1101 t1102 from by repeat (first | (with_reducible first | exact HI0.out | apply IsS163.alloc | apply IsS163.drewN | apply IsS163.drew | apply IsS163.set_1 | apply IsS163.set_2 | refine IsS163.far ?_ NB0_1080.out _) | exact HI0.out))) : g ≠ gb1103)); have n12_ := Aside0.mk ((by rw [hg]; exact Nat.ne_of_gt (IsS163.lt (show IsS163 w0 _ g s0_0 t1101 t1102 from by repeat (first | (with_reducible first | exact HI0.out | apply IsS163.alloc | apply IsS163.drewN | apply IsS163.drew | apply IsS163.set_1 | apply IsS163.set_2 | refine IsS163.far ?_ NB0_1080.out _) | exact HI0.out))) : gb1103 ≠ g)); clear HO1096 HO1099 BK1080 HI0 HK HB; have HO1096 := n0_; have HO1099 := n1_; have BK1080 := n2_; have HI0 := n3_; have HK := n4_; have HB := n5_; have BK1103 := n6_; have GW1103 := n7_; have GE1103 := n8_; have NB1080_1103 := n9_; have NB1103_1080 := n10_; have NB0_1103 := n11_; have NB1103_0 := n12_; clear n0_ n1_ n2_ n3_ n4_ n5_ n6_ n7_ n8_ n9_ n10_ n11_ n12_ hb hbox hg; have hnb28 := NB1103_1080.out; have hnc28 := NB1080_1103.out; have hnb29 := NB1103_0.out; have hnc29 := NB0_1103.out; obtain ⟨hcz30_0, hcz30_1⟩ := cells2 BK1103.out; obtain ⟨hfz30_0, hfz30_1⟩ := frz2 BK1103.out; obtain ⟨Ao31, co31, eo31⟩ := Kd.R_slice HO1096.out; subst eo31))
      go_loopg [8] kj14 (fun kq v8 w' => ∃ (x8_3 : Int) (x1001_3 : Int) (x1002_3 : Int) (x1104001_3 : List Int) (u1104001 : Value), v8 = .int .i64 x8_3 ∧ Aside0 (spec_l02Draw.l0 kq x5_14 t1100 x8_3 s0_0 x1001_3 x1002_3 t1093 x1104001_3 = some (r1, r2, r3, r4)) ∧ Aside0 (kq ≤ kj14) ∧ Aside0 (Kd.R (Kd.int .i64) 2 w' w.heap.size (fun _ => True) u1104001 x1104001_3) ∧ Aside0 (w'.heap[gb1080]? = some (.cells #[.int .i64 0, (.slice none 0 0)] 29 (0, 0))) ∧ Aside0 (w'.heap[gb1103]? = some (.cells #[.int .i64 t1093, u1104001] 29 (0, 0))) ∧ Aside0 (IsS163 w0 w' g s0_0 x1001_3 x1002_3) ∧ Aside0 (KeepBut w w' g none) ∧ Aside0 (Below w0.heap.size w0 w'))
      case atStart => exact ⟨(0), (t1101), (t1102), (t1094), (.slice Ao31 t1094.length co31), (eW), H', ⟨Nat.le_refl _⟩, ⟨by (with_reducible repeat (first | apply Kd.R_alloc | apply Kd.R_drewN | apply Kd.R_drew)); exact Kd.R_mono (Kd.R_far (p := ⟨gb1103, 1, none⟩) (Kd.R_far (p := ⟨gb1103, 0, none⟩) (Kd.R_types HO1096.out BK1103.out (by decide)) (fun _ hk => hk.2) (.int .i64 t1093)) (fun _ hk => hk.2) (.slice Ao31 t1094.length co31)) (fun _ hk => trivial)⟩, ⟨by (with_reducible repeat (first | refine blk_drewN ?_ _ | refine blk_drew ?_ | refine blk_alloc ?_ _)); refine blk_far ?_ NB1080_1103.out _; (with_reducible repeat (first | refine blk_drewN ?_ _ | refine blk_drew ?_ | refine blk_alloc ?_ _)); refine blk_far ?_ NB1080_1103.out _; exact bP BK1080.out⟩, ⟨by (with_reducible repeat (first | refine blk_drewN ?_ _ | refine blk_drew ?_ | refine blk_alloc ?_ _)); refine blk_put (cs := #[.int .i64 t1093, .slice none 0 0]) ?_ 1 _ rfl; (with_reducible repeat (first | refine blk_drewN ?_ _ | refine blk_drew ?_ | refine blk_alloc ?_ _)); refine blk_put (cs := #[.int .i64 0, .slice none 0 0]) ?_ 0 _ rfl; exact bP BK1103.out⟩, ⟨by repeat (first | (with_reducible first | exact HI0.out | apply IsS163.alloc | apply IsS163.drewN | apply IsS163.drew | apply IsS163.set_1 | apply IsS163.set_2 | refine IsS163.far ?_ NB0_1080.out _ | refine IsS163.far ?_ NB0_1103.out _) | exact HI0.out)⟩, ⟨by repeat (first | (with_reducible first | exact HK.out | apply KeepBut.set_ | apply keep_drewN | apply keep_drew | apply keep_alloc | refine keep_far ?_ GW1080.out _ | refine keep_far ?_ GW1103.out _) | exact HK.out)⟩, ⟨by repeat (first | (with_reducible first | exact HB.out | apply below_alloc | apply pw_below_drewN | apply below_drew1 | refine below_set ?_ (IsS163.ge HI0.out) | refine below_set ?_ GE1080.out | refine below_set ?_ GE1103.out) | exact HB.out)⟩⟩
      case round =>
       clear H'
       try clear c1
       try clear c2
       try clear p2
       try clear c5
       try clear c5b0
       try clear p6
       try clear c8
       try clear c9
       try clear c12
       try clear c14
       try clear c16
       try clear c17
       try clear c17b0
       try clear c28
       try clear c29
       try clear hcz13_0
       try clear hcz13_1
       try clear hcz30_0
       try clear hcz30_1
       try clear hfz13_0
       try clear hfz13_1
       try clear hfz30_0
       try clear hfz30_1
       try clear p2
       try clear p6
       obtain ⟨x8_3, x1001_3, x1002_3, x1104001_3, u1104001, rfl, HA, HK3, HO_1104001, BK1080, BK1103, HI0, HK, HB⟩ := hrel
       cases gk with
       | zero => exact absurd HA.out (by simp [spec_l02Draw.l0])
       | succ k3 =>
        have H := HA.out
        clear HA
        simp only [spec_l02Draw.l0] at H
        by_cases c32 : x8_3 < x5_14
        ·rw [if_pos c32] at H
         have c32b0 : decide (x8_3 < x5_14) = true := decide_eq_true c32
         clear c32
         have H' := Aside0.mk H
         clear H
         go_wp2
         go_loopg [9] k3 (fun kq v9 w' => ∃ (x9_4 : Int) (x1001_4 : Int) (x1002_4 : Int) (x1104001_4 : List Int) (u1104001 : Value), v9 = .int .i64 x9_4 ∧ Aside0 (spec_l02Draw.l1 kq x5_14 t1100 x8_3 x9_4 s0_0 x1001_4 x1002_4 t1093 x1104001_4 = some (r1, r2, r3, r4)) ∧ Aside0 (kq ≤ k3) ∧ Aside0 (Kd.R (Kd.int .i64) 2 w' w.heap.size (fun _ => True) u1104001 x1104001_4) ∧ Aside0 (w'.heap[gb1080]? = some (.cells #[.int .i64 0, (.slice none 0 0)] 29 (0, 0))) ∧ Aside0 (w'.heap[gb1103]? = some (.cells #[.int .i64 t1093, u1104001] 29 (0, 0))) ∧ Aside0 (IsS163 w0 w' g s0_0 x1001_4 x1002_4) ∧ Aside0 (KeepBut w w' g none) ∧ Aside0 (Below w0.heap.size w0 w'))
         case atStart => exact ⟨(0), (x1001_3), (x1002_3), (x1104001_3), (u1104001), (eW), H', ⟨Nat.le_refl _⟩, ⟨(rP HO_1104001.out)⟩, ⟨(bP BK1080.out)⟩, ⟨(bP BK1103.out)⟩, ⟨by repeat (first | (with_reducible first | exact HI0.out | apply IsS163.alloc | apply IsS163.drewN | apply IsS163.drew | apply IsS163.set_1 | apply IsS163.set_2 | refine IsS163.far ?_ NB0_1080.out _ | refine IsS163.far ?_ NB0_1103.out _) | exact HI0.out)⟩, ⟨by repeat (first | (with_reducible first | exact HK.out | apply KeepBut.set_ | apply keep_drewN | apply keep_drew | apply keep_alloc | refine keep_far ?_ GW1080.out _ | refine keep_far ?_ GW1103.out _) | exact HK.out)⟩, ⟨by repeat (first | (with_reducible first | exact HB.out | apply below_alloc | apply pw_below_drewN | apply below_drew1 | refine below_set ?_ (IsS163.ge HI0.out) | refine below_set ?_ GE1080.out | refine below_set ?_ GE1103.out) | exact HB.out)⟩⟩
         case round =>
          clear H'
          try clear c1
          try clear c2
          try clear p2
          try clear c3
          try clear c5
          try clear c5b0
          try clear p6
          try clear c8
          try clear c9
          try clear c12
          try clear c14
          try clear c16
          try clear c17
          try clear c17b0
          try clear c28
          try clear c29
          try clear c32
          try clear c32b0
          try clear hcz13_0
          try clear hcz13_1
          try clear hcz30_0
          try clear hcz30_1
          try clear hfz13_0
          try clear hfz13_1
          try clear hfz30_0
          try clear hfz30_1
          try clear p2
          try clear p6
          obtain ⟨x9_4, x1001_4, x1002_4, x1104001_4, u1104001, rfl, HA, HK4, HO_1104001, BK1080, BK1103, HI0, HK, HB⟩ := hrel
          cases gk with
          | zero => exact absurd HA.out (by simp [spec_l02Draw.l1])
          | succ k4 =>
           have H := HA.out
           clear HA
           simp only [spec_l02Draw.l1] at H
           by_cases c33 : x9_4 < x8_3
           ·rw [if_pos c33] at H
            have c33b0 : decide (x9_4 < x8_3) = true := decide_eq_true c33
            clear c33
            replace H := Option.bind_eq_some_iff.mp H
            obtain ⟨⟨t1104, t1105, t1106⟩, A340, H⟩ := H
            replace H : (if t1104 = 0 then ((spec_l02Join.f t1093 x1104001_4 x8_3 x9_4).bind fun t1107 => (spec_l02Draw.l1 k4 x5_14 t1100 x8_3 (wrap64 (x9_4 + 1)) s0_0 t1105 t1106 t1093 t1107)) else (spec_l02Draw.l1 k4 x5_14 t1100 x8_3 (wrap64 (x9_4 + 1)) s0_0 t1105 t1106 t1093 x1104001_4)) = some (r1, r2, r3, r4) := H
            have A34 := Aside0.mk A340
            clear A340
            by_cases c35 : t1104 = 0
            ·rw [if_pos c35] at H
             have c35b0 : (t1104 == 0) = true := beq_iff_eq.mpr c35
             have c35b1 : (t1104 != 0) = false := bne_eq_false_iff_eq.mpr c35
             clear c35
             replace H := Option.bind_eq_some_iff.mp H
             obtain ⟨t1107, A360, H⟩ := H
             replace H : (spec_l02Draw.l1 k4 x5_14 t1100 x8_3 (wrap64 (x9_4 + 1)) s0_0 t1105 t1106 t1093 t1107) = some (r1, r2, r3, r4) := H
             have A36 := Aside0.mk A360
             clear A360
             have H' := Aside0.mk H
             clear H
             go_wp2_with (first | ((with_reducible refine gate_callee (f := 97) rfl ?_); refine goesS (some 46) Tryd.func97 #[.pointer (some ⟨g, 0, none⟩), .int .i64 t1100] ?_; (with_reducible refine (spec_l01Next.calls g s0_0 x1001_4 x1002_4 t1100 t1104 t1105 t1106 w0 _ ?side1 ?side2 A34.out).mono ?_); (case side1 => repeat (first | (with_reducible first | exact HI0.out | apply IsS163.alloc | apply IsS163.drewN | apply IsS163.drew | apply IsS163.set_1 | apply IsS163.set_2 | refine IsS163.far ?_ NB0_1080.out _ | refine IsS163.far ?_ NB0_1103.out _) | exact HI0.out)); (case side2 => repeat (first | (with_reducible first | exact HB.out | apply below_alloc | apply pw_below_drewN | apply below_drew1 | refine below_set ?_ (IsS163.ge HI0.out) | refine below_set ?_ GE1080.out | refine below_set ?_ GE1103.out) | exact HB.out)); rintro e w37 ⟨rfl, hi, hb, hk⟩; refine ⟨_, rfl, ?_⟩; have n0_ := Aside0.mk (Kd.R_mono (Kd.R_keep (IsS163.apart (show IsS163 w0 _ g s0_0 x1001_4 x1002_4 from by repeat (first | (with_reducible first | exact HI0.out | apply IsS163.alloc | apply IsS163.drewN | apply IsS163.drew | apply IsS163.set_1 | apply IsS163.set_2 | refine IsS163.far ?_ NB0_1080.out _ | refine IsS163.far ?_ NB0_1103.out _) | exact HI0.out)) (rP HO_1104001.out) (by decide)) hk (fun _ h => h.2)) (fun _ h => h.1)); have n1_ := Aside0.mk (KeepBut.blk hk (g' := gb1080) (o := .cells #[.int .i64 0, .slice none 0 0] 29 (0, 0)) (bP BK1080.out) NB1080_0.out (by simp)); have n2_ := Aside0.mk (KeepBut.blk hk (g' := gb1103) (o := .cells #[.int .i64 t1093, u1104001] 29 (0, 0)) (bP BK1103.out) NB1103_0.out (by simp)); have n3_ := Aside0.mk (KeepBut.trans (by repeat (first | (with_reducible first | exact HK.out | apply KeepBut.set_ | apply keep_drewN | apply keep_drew | apply keep_alloc | refine keep_far ?_ GW1080.out _ | refine keep_far ?_ GW1103.out _) | exact HK.out)) hk (.inl rfl)); have n4_ := Aside0.mk (hb); have n5_ := Aside0.mk (hi); clear HO_1104001 BK1080 BK1103 HK HB HI0; have HO_1104001 := n0_; have BK1080 := n1_; have BK1103 := n2_; have HK := n3_; have HB := n4_; have HI0 := n5_; clear n0_ n1_ n2_ n3_ n4_ n5_; (try clear hb); (try clear hb2); (try clear hk); (try clear hi); have hnb38 := NB1103_1080.out; have hnc38 := NB1080_1103.out; have hnb39 := NB1103_0.out; have hnc39 := NB0_1103.out; obtain ⟨hcz40_0, hcz40_1⟩ := cells2 BK1103.out; obtain ⟨hfz40_0, hfz40_1⟩ := frz2 BK1103.out; obtain ⟨Ao41, co41, eo41⟩ := Kd.R_slice HO_1104001.out; subst eo41) | ((with_reducible refine gate_callee (f := 164) rfl ?_); refine goesS (some 51) Tryd.func164 #[.agg #[.int .i64 t1093, .slice Ao41 x1104001_4.length co41], .int .i64 x8_3, .int .i64 x9_4] ?_; (with_reducible refine (spec_l02Join.calls t1093 (fun k_ => some k_ = (.slice Ao41 x1104001_4.length co41 : Value).ownBlock) (.slice Ao41 x1104001_4.length co41) x1104001_4 x8_3 x9_4 t1107 w0 _ ?side1 ?side2 A36.out).mono ?_); (case side1 => repeat (first | (with_reducible first | exact HB.out | apply below_alloc | apply pw_below_drewN | apply below_drew1 | refine below_set ?_ (IsS163.ge HI0.out) | refine below_set ?_ GE1080.out | refine below_set ?_ GE1103.out) | exact HB.out)); (case side2 => exact Kd.R_lower (Kd.R_tight rfl HO_1104001.out) HL.out); rintro e w42 ⟨rfl, hy0, hb, hkp⟩; refine ⟨_, rfl, ?_⟩; have n0_ := Aside0.mk (Kd.R_reok rfl (Kd.R_raise (d := (Kd.int .i64)) (b := w0.heap.size) (b' := w.heap.size) (fun _ _ _ _ h_ => h_) hy0 (fun k_ e_ => Or.elim (hy0.1 k_ e_) (fun hs_ => (fun e_ => Kd.R_base HO_1104001.out k_ e_.symm) hs_) (fun hn_ => Nat.le_trans (keep_size (w := w) (g := g) (row := none) (by repeat (first | (with_reducible first | exact HK.out | apply KeepBut.set_ | apply keep_drewN | apply keep_drew | apply keep_alloc | refine keep_far ?_ GW1080.out _ | refine keep_far ?_ GW1103.out _) | exact HK.out))) hn_))) (fun k_ e_ => HO_1104001.out.1 k_ e_)); have n1_ := Aside0.mk (blk_kept (bP BK1080.out) hkp (fun hs_ => (fun e_ => (Kd.R_ne HO_1104001.out BK1080.out (by decide)) e_) hs_)); have n2_ := Aside0.mk (blk_kept (bP BK1103.out) hkp (fun hs_ => (fun e_ => (Kd.R_ne HO_1104001.out BK1103.out (by decide)) e_) hs_)); have n3_ := Aside0.mk (IsS163.kept (by repeat (first | (with_reducible first | exact HI0.out | apply IsS163.alloc | apply IsS163.drewN | apply IsS163.drew | apply IsS163.set_1 | apply IsS163.set_2 | refine IsS163.far ?_ NB0_1080.out _ | refine IsS163.far ?_ NB0_1103.out _) | exact HI0.out)) hkp (fun hs_ => (fun e_ => (IsS163.own_ne HI0.out HO_1104001.out (by decide)) e_) hs_)); have n4_ := Aside0.mk (Kept.keepG (by repeat (first | (with_reducible first | exact HK.out | apply KeepBut.set_ | apply keep_drewN | apply keep_drew | apply keep_alloc | refine keep_far ?_ GW1080.out _ | refine keep_far ?_ GW1103.out _) | exact HK.out)) hkp (fun k_ hs_ => (fun e_ => .inr (Kd.R_base HO_1104001.out k_ e_.symm)) hs_)); have n5_ := Aside0.mk (hb); clear HO_1104001 BK1080 BK1103 HI0 HK HB; have HO_1104001 := n0_; have BK1080 := n1_; have BK1103 := n2_; have HI0 := n3_; have HK := n4_; have HB := n5_; clear n0_ n1_ n2_ n3_ n4_ n5_; (try clear hb); (try clear hkp); (try clear hy0)))
             go_roundg k4
             case measure => have := HJ2.out; have := HJ14.out; have := HK3.out; have := HK4.out; omega
             case rel => exact ⟨(wrap64 (x9_4 + 1)), (t1105), (t1106), (t1107), (.slice Ao41 x1104001_4.length co41), (eW), H', ⟨by have := HJ2.out; have := HJ14.out; have := HK3.out; have := HK4.out; omega⟩, ⟨(rP HO_1104001.out)⟩, ⟨(bP BK1080.out)⟩, ⟨(bP BK1103.out)⟩, ⟨by repeat (first | (with_reducible first | exact HI0.out | apply IsS163.alloc | apply IsS163.drewN | apply IsS163.drew | apply IsS163.set_1 | apply IsS163.set_2 | refine IsS163.far ?_ NB0_1080.out _ | refine IsS163.far ?_ NB0_1103.out _) | exact HI0.out)⟩, ⟨by repeat (first | (with_reducible first | exact HK.out | apply KeepBut.set_ | apply keep_drewN | apply keep_drew | apply keep_alloc | refine keep_far ?_ GW1080.out _ | refine keep_far ?_ GW1103.out _) | exact HK.out)⟩, ⟨by repeat (first | (with_reducible first | exact HB.out | apply below_alloc | apply pw_below_drewN | apply below_drew1 | refine below_set ?_ (IsS163.ge HI0.out) | refine below_set ?_ GE1080.out | refine below_set ?_ GE1103.out) | exact HB.out)⟩⟩
            ·rw [if_neg c35] at H
             have c35b0 : (t1104 == 0) = false := beq_eq_false_iff_ne.mpr c35
             have c35b1 : (t1104 != 0) = true := bne_iff_ne.mpr c35
             have H' := Aside0.mk H
             clear H
             go_wp2_with (first | ((with_reducible refine gate_callee (f := 97) rfl ?_); refine goesS (some 46) Tryd.func97 #[.pointer (some ⟨g, 0, none⟩), .int .i64 t1100] ?_; (with_reducible refine (spec_l01Next.calls g s0_0 x1001_4 x1002_4 t1100 t1104 t1105 t1106 w0 _ ?side1 ?side2 A34.out).mono ?_); (case side1 => repeat (first | (with_reducible first | exact HI0.out | apply IsS163.alloc | apply IsS163.drewN | apply IsS163.drew | apply IsS163.set_1 | apply IsS163.set_2 | refine IsS163.far ?_ NB0_1080.out _ | refine IsS163.far ?_ NB0_1103.out _) | exact HI0.out)); (case side2 => repeat (first | (with_reducible first | exact HB.out | apply below_alloc | apply pw_below_drewN | apply below_drew1 | refine below_set ?_ (IsS163.ge HI0.out) | refine below_set ?_ GE1080.out | refine below_set ?_ GE1103.out) | exact HB.out)); rintro e w43 ⟨rfl, hi, hb, hk⟩; refine ⟨_, rfl, ?_⟩; have n0_ := Aside0.mk (Kd.R_mono (Kd.R_keep (IsS163.apart (show IsS163 w0 _ g s0_0 x1001_4 x1002_4 from by repeat (first | (with_reducible first | exact HI0.out | apply IsS163.alloc | apply IsS163.drewN | apply IsS163.drew | apply IsS163.set_1 | apply IsS163.set_2 | refine IsS163.far ?_ NB0_1080.out _ | refine IsS163.far ?_ NB0_1103.out _) | exact HI0.out)) (rP HO_1104001.out) (by decide)) hk (fun _ h => h.2)) (fun _ h => h.1)); have n1_ := Aside0.mk (KeepBut.blk hk (g' := gb1080) (o := .cells #[.int .i64 0, .slice none 0 0] 29 (0, 0)) (bP BK1080.out) NB1080_0.out (by simp)); have n2_ := Aside0.mk (KeepBut.blk hk (g' := gb1103) (o := .cells #[.int .i64 t1093, u1104001] 29 (0, 0)) (bP BK1103.out) NB1103_0.out (by simp)); have n3_ := Aside0.mk (KeepBut.trans (by repeat (first | (with_reducible first | exact HK.out | apply KeepBut.set_ | apply keep_drewN | apply keep_drew | apply keep_alloc | refine keep_far ?_ GW1080.out _ | refine keep_far ?_ GW1103.out _) | exact HK.out)) hk (.inl rfl)); have n4_ := Aside0.mk (hb); have n5_ := Aside0.mk (hi); clear HO_1104001 BK1080 BK1103 HK HB HI0; have HO_1104001 := n0_; have BK1080 := n1_; have BK1103 := n2_; have HK := n3_; have HB := n4_; have HI0 := n5_; clear n0_ n1_ n2_ n3_ n4_ n5_; (try clear hb); (try clear hb2); (try clear hk); (try clear hi)))
             go_roundg k4
             case measure => have := HJ2.out; have := HJ14.out; have := HK3.out; have := HK4.out; omega
             case rel => exact ⟨(wrap64 (x9_4 + 1)), (t1105), (t1106), (x1104001_4), (u1104001), (eW), H', ⟨by have := HJ2.out; have := HJ14.out; have := HK3.out; have := HK4.out; omega⟩, ⟨(rP HO_1104001.out)⟩, ⟨(bP BK1080.out)⟩, ⟨(bP BK1103.out)⟩, ⟨by repeat (first | (with_reducible first | exact HI0.out | apply IsS163.alloc | apply IsS163.drewN | apply IsS163.drew | apply IsS163.set_1 | apply IsS163.set_2 | refine IsS163.far ?_ NB0_1080.out _ | refine IsS163.far ?_ NB0_1103.out _) | exact HI0.out)⟩, ⟨by repeat (first | (with_reducible first | exact HK.out | apply KeepBut.set_ | apply keep_drewN | apply keep_drew | apply keep_alloc | refine keep_far ?_ GW1080.out _ | refine keep_far ?_ GW1103.out _) | exact HK.out)⟩, ⟨by repeat (first | (with_reducible first | exact HB.out | apply below_alloc | apply pw_below_drewN | apply below_drew1 | refine below_set ?_ (IsS163.ge HI0.out) | refine below_set ?_ GE1080.out | refine below_set ?_ GE1103.out) | exact HB.out)⟩⟩
           ·rw [if_neg c33] at H
            have c33b0 : decide (x9_4 < x8_3) = false := decide_eq_false c33
            clear c33
            have H' := Aside0.mk H
            clear H
            go_wp2
            go_roundg k4
            case measure => have := HJ2.out; have := HJ14.out; have := HK3.out; have := HK4.out; omega
            case rel => exact ⟨(wrap64 (x8_3 + 1)), (x1001_4), (x1002_4), (x1104001_4), (u1104001), (eW), H', ⟨by have := HJ2.out; have := HJ14.out; have := HK3.out; have := HK4.out; omega⟩, ⟨(rP HO_1104001.out)⟩, ⟨(bP BK1080.out)⟩, ⟨(bP BK1103.out)⟩, ⟨by repeat (first | (with_reducible first | exact HI0.out | apply IsS163.alloc | apply IsS163.drewN | apply IsS163.drew | apply IsS163.set_1 | apply IsS163.set_2 | refine IsS163.far ?_ NB0_1080.out _ | refine IsS163.far ?_ NB0_1103.out _) | exact HI0.out)⟩, ⟨by repeat (first | (with_reducible first | exact HK.out | apply KeepBut.set_ | apply keep_drewN | apply keep_drew | apply keep_alloc | refine keep_far ?_ GW1080.out _ | refine keep_far ?_ GW1103.out _) | exact HK.out)⟩, ⟨by repeat (first | (with_reducible first | exact HB.out | apply below_alloc | apply pw_below_drewN | apply below_drew1 | refine below_set ?_ (IsS163.ge HI0.out) | refine below_set ?_ GE1080.out | refine below_set ?_ GE1103.out) | exact HB.out)⟩⟩
        ·rw [if_neg c32] at H
         have c32b0 : decide (x8_3 < x5_14) = false := decide_eq_false c32
         clear c32
         simp only [Option.some.injEq, Prod.mk.injEq] at H
         obtain ⟨rfl, rfl, rfl, rfl⟩ := H
         have hnb44 := NB1103_1080.out
         have hnc44 := NB1080_1103.out
         have hnb45 := NB1103_0.out
         have hnc45 := NB0_1103.out
         have hcz46_0 : wr.cell? ⟨gb1103, 0, none⟩ = some (.int .i64 t1093) := (blk_cell BK1103.out 0).trans rfl
         have hcz46_1 : wr.cell? ⟨gb1103, 1, none⟩ = some (u1104001) := (blk_cell BK1103.out 1).trans rfl
         have hfz46_0 := blk_frozen BK1103.out 0
         have hfz46_1 := blk_frozen BK1103.out 1
         have hnb47 := NB1080_0.out
         have hnc47 := NB0_1080.out
         have hcz48_0 : wr.cell? ⟨gb1080, 0, none⟩ = some (.int .i64 0) := (blk_cell BK1080.out 0).trans rfl
         have hcz48_1 : wr.cell? ⟨gb1080, 1, none⟩ = some (.slice none 0 0) := (blk_cell BK1080.out 1).trans rfl
         have hfz48_0 := blk_frozen BK1080.out 0
         have hfz48_1 := blk_frozen BK1080.out 1
         obtain ⟨Ao49, co49, eo49⟩ := Kd.R_slice HO_1104001.out
         subst eo49
         go_wp2
         refine bodyPost_ret (results_cell_row rfl _ _ gb1080 29 #[.int .i64 t1093, .slice Ao49 x1104001_3.length co49] (0, 0) _ rfl (by (with_reducible repeat (first | refine blk_drewN ?_ _ | refine blk_drew ?_ | refine blk_alloc ?_ _)); refine blk_put (cs := #[.int .i64 t1093, .slice none 0 0]) ?_ 1 _ rfl; (with_reducible repeat (first | refine blk_drewN ?_ _ | refine blk_drew ?_ | refine blk_alloc ?_ _)); refine blk_put (cs := #[.int .i64 0, .slice none 0 0]) ?_ 0 _ rfl; exact bP BK1080.out) Tryd.underlying29 rfl (by kernel_rfl)) rfl ?_
         exact ⟨_, eW, by (with_reducible repeat (first | apply Kd.R_alloc | apply Kd.R_drewN | apply Kd.R_drew)); exact Kd.R_mono (Kd.R_far (p := ⟨gb1080, 1, none⟩) (Kd.R_far (p := ⟨gb1080, 0, none⟩) (Kd.R_types HO_1104001.out BK1080.out (by decide)) (fun _ hk => hk.2) (.int .i64 t1093)) (fun _ hk => hk.2) (.slice Ao49 x1104001_3.length co49)) (fun _ hk => trivial), by repeat (first | (with_reducible first | exact HI0.out | apply IsS163.alloc | apply IsS163.drewN | apply IsS163.drew | apply IsS163.set_1 | apply IsS163.set_2 | refine IsS163.far ?_ NB0_1080.out _ | refine IsS163.far ?_ NB0_1103.out _) | exact HI0.out), by repeat (first | (with_reducible first | exact HB.out | apply below_alloc | apply pw_below_drewN | apply below_drew1 | refine below_set ?_ (IsS163.ge HI0.out) | refine below_set ?_ GE1080.out | refine below_set ?_ GE1103.out) | exact HB.out), by repeat (first | (with_reducible first | exact HK.out | apply KeepBut.set_ | apply keep_drewN | apply keep_drew | apply keep_alloc | refine keep_far ?_ GW1080.out _ | refine keep_far ?_ GW1103.out _) | exact HK.out)⟩
/-! ### spec_l13Grow: function 144 -/
mutual
def spec_l13Grow.j0 : Nat → Int → Int → Int → Bool → List Int → Int → Int → Option ((List (S84)) × Int × Int)
 | 0, _, _, _, _, _, _, _ => none
 | k + 1, x1, x2, x7, x12, x1000, x1001, x1002 => if x12 = true then (if x1 = 0 then (spec_l13Grow.j1 k x1 true x1000 x1001 x1002) else ((spec_l01Next.f x1000 x1001 x1002 24).bind fun bt1111 => (spec_l13Grow.j1 k x1 (bt1111.1 == 0) x1000 bt1111.2.1 bt1111.2.2))) else (if x2 < 3 then (spec_l13Grow.j2 k x1 x2 x7 true x1000 x1001 x1002) else (spec_l13Grow.j2 k x1 x2 x7 (decide (x7 < 4)) x1000 x1001 x1002))
def spec_l13Grow.j1 : Nat → Int → Bool → List Int → Int → Int → Option ((List (S84)) × Int × Int)
 | 0, _, _, _, _, _ => none
 | k + 1, x1, x29, x1000, x1001, x1002 => if x29 = true then ((spec_l01Next.f x1000 x1001 x1002 2).bind fun bt1114 => (some ((([(⟨bt1114.1, 0⟩ : S84)] : List (S84))), bt1114.2.1, bt1114.2.2))) else ((spec_l01Next.f x1000 x1001 x1002 x1).bind fun bt1120 => (some ((([(⟨2, bt1120.1⟩ : S84)] : List (S84))), bt1120.2.1, bt1120.2.2)))
def spec_l13Grow.j2 : Nat → Int → Int → Int → Bool → List Int → Int → Int → Option ((List (S84)) × Int × Int)
 | 0, _, _, _, _, _, _, _ => none
 | k + 1, x1, x2, x7, x39, x1000, x1001, x1002 => if x39 = true then ((some (([(⟨5, 0⟩ : S84)] : List (S84)) : List (S84))).bind fun y1126 => ((spec_l13Grow.f k x1000 x1001 x1002 x1 (wrap64 (x2 - 1))).bind fun bt1129 => (if y1126.length + bt1129.1.length < 8796093022208 then (some ((y1126 ++ bt1129.1), bt1129.2.1, bt1129.2.2)) else (none)))) else ((spec_l13Grow.f k x1000 x1001 x1002 x1 (wrap64 (x2 - 2))).bind fun bt1137 => ((spec_l13Grow.f k x1000 bt1137.2.1 bt1137.2.2 x1 (wrap64 ((wrap64 (x2 - 1)) - (bt1137.1.length : Int)))).bind fun bt1142 => ((some (([(⟨wrap64 (3 + (Int.tmod x7 2)), 0⟩ : S84)] : List (S84)) : List (S84))).bind fun y1147 => (if y1147.length + bt1137.1.length < 8796093022208 then ((some (y1147 ++ bt1137.1 : List (S84))).bind fun y1150 => (if y1150.length + bt1142.1.length < 8796093022208 then (some ((y1150 ++ bt1142.1), bt1142.2.1, bt1142.2.2)) else (none))) else (none)))))
def spec_l13Grow.f : Nat → List Int → Int → Int → Int → Int → Option ((List (S84)) × Int × Int)
 | 0, _, _, _, _, _ => none
 | k + 1, s0_0, s0_1, s0_2, a1, a2 => (spec_l01Next.f s0_0 s0_1 s0_2 8).bind fun bt1108 => (if a2 < 2 then (spec_l13Grow.j0 k a1 a2 bt1108.1 true s0_0 bt1108.2.1 bt1108.2.2) else (if bt1108.1 < 2 then (spec_l13Grow.j0 k a1 a2 bt1108.1 true s0_0 bt1108.2.1 bt1108.2.2) else (spec_l13Grow.j0 k a1 a2 bt1108.1 (a1 == 0) s0_0 bt1108.2.1 bt1108.2.2)))
end
set_option maxHeartbeats 8000000 in
set_option maxRecDepth 100000 in
theorem spec_l13Grow.calls (k : Nat) : ∀ (g : Nat) (s0_0 : List Int) (s0_1 : Int) (s0_2 : Int) (a1 : Int) (a2 : Int) (r1 : List (S84)) (r2 : Int) (r3 : Int) (w0 w : World) (hI : IsS163 w0 w g s0_0 s0_1 s0_2) (hB : Below w0.heap.size w0 w) (h : spec_l13Grow.f k s0_0 s0_1 s0_2 a1 a2 = some (r1, r2, r3)),
  Calls Tryd.prog 144 #[.pointer (some ⟨g, 0, none⟩), .int .i64 a1, .int .i64 a2] w fun e w' => ∃ v0_ : Value, e = .returned (v0_) ∧ Kd.R k84 84 w' w.heap.size (fun _ => True) v0_ r1 ∧ IsS163 w0 w' g s0_0 r2 r3 ∧ Below w0.heap.size w0 w' ∧ KeepBut w w' g none := by
 induction k using Nat.strongRecOn with
 | _ k ih =>
 intro g s0_0 s0_1 s0_2 a1 a2 r1 r2 r3 w0 w hI hB h
 cases k with
 | zero => exact absurd h (by simp [spec_l13Grow.f])
 | succ k =>
 simp only [spec_l13Grow.f] at h
 have hu84 := Tryd.underlying84
 have HI0 := Aside0.mk hI
 have HK := Aside0.mk (KeepBut.refl w g none)
 have HL := Aside0.mk hB.size
 clear hI
 have HW0 := Aside0.mk hB.size
 have HB := Aside0.mk hB
 clear hB
 have H : ((spec_l01Next.f s0_0 s0_1 s0_2 8).bind fun bt1108 => (if a2 < 2 then (spec_l13Grow.j0 k a1 a2 bt1108.1 true s0_0 bt1108.2.1 bt1108.2.2) else (if bt1108.1 < 2 then (spec_l13Grow.j0 k a1 a2 bt1108.1 true s0_0 bt1108.2.1 bt1108.2.2) else (spec_l13Grow.j0 k a1 a2 bt1108.1 (a1 == 0) s0_0 bt1108.2.1 bt1108.2.2)))) = some (r1, r2, r3) := h
 clear h
 replace H := Option.bind_eq_some_iff.mp H
 obtain ⟨⟨t1108, t1109, t1110⟩, A40, H⟩ := H
 replace H : (if a2 < 2 then (spec_l13Grow.j0 k a1 a2 t1108 true s0_0 t1109 t1110) else (if t1108 < 2 then (spec_l13Grow.j0 k a1 a2 t1108 true s0_0 t1109 t1110) else (spec_l13Grow.j0 k a1 a2 t1108 (a1 == 0) s0_0 t1109 t1110))) = some (r1, r2, r3) := H
 have A4 := Aside0.mk A40
 clear A40
 have HC5 := Aside0.mk H
 clear H
 go_enter Tryd.func144, Tryd.ntmps144
 go_upto_region 2 with (first | ((with_reducible refine gate_callee (f := 97) rfl ?_); refine goesS (some 11) Tryd.func97 #[.pointer (some ⟨g, 0, none⟩), .int .i64 8] ?_; (with_reducible refine (spec_l01Next.calls g s0_0 s0_1 s0_2 8 t1108 t1109 t1110 w0 _ ?side1 ?side2 A4.out).mono ?_); (case side1 => repeat (first | (with_reducible first | exact HI0.out | apply IsS163.alloc | apply IsS163.drewN | apply IsS163.drew | apply IsS163.set_1 | apply IsS163.set_2) | exact HI0.out)); (case side2 => repeat (first | (with_reducible first | exact HB.out | apply below_alloc | apply pw_below_drewN | apply below_drew1 | refine below_set ?_ (IsS163.ge HI0.out)) | exact HB.out)); rintro e w6 ⟨rfl, hi, hb, hk⟩; refine ⟨_, rfl, ?_⟩; have n0_ := Aside0.mk (KeepBut.trans (by repeat (first | (with_reducible first | exact HK.out | apply KeepBut.set_ | apply keep_drewN | apply keep_drew | apply keep_alloc) | exact HK.out)) hk (.inl rfl)); have n1_ := Aside0.mk (hb); have n2_ := Aside0.mk (hi); clear HK HB HI0; have HK := n0_; have HB := n1_; have HI0 := n2_; clear n0_ n1_ n2_; (try clear hb); (try clear hb2); (try clear hk); (try clear hi)))
 (try simp only [Act.put, List.setIfInBounds_toArray, List.set_cons_zero, List.set_cons_succ])
 go_cut [12] (fun v12 wc => ∃ (kq : Nat) (x12_4 : Bool), v12 = .bool x12_4 ∧ Aside0 (spec_l13Grow.j0 kq a1 a2 t1108 x12_4 s0_0 t1109 t1110 = some (r1, r2, r3)) ∧ Aside0 (kq ≤ k) ∧ Aside0 (IsS163 w0 wc g s0_0 t1109 t1110) ∧ Aside0 (KeepBut w wc g none) ∧ Aside0 (Below w0.heap.size w0 wc))
 case first =>
  have H := HC5.out
  clear HC5
  by_cases c7 : a2 < 2
  ·rw [if_pos c7] at H
   have c7b0 : decide (a2 < 2) = true := decide_eq_true c7
   clear c7
   (first | rw [c7b0] | (simp only [i64_w, i32_w]; rw [c7b0]) | skip)
   have H' := Aside0.mk H
   clear H
   go_wp2
   go_meet
   case rel => exact ⟨_, (true), (eW), H', ⟨by first | omega | exact Nat.le_refl _⟩, ⟨by repeat (first | (with_reducible first | exact HI0.out | apply IsS163.alloc | apply IsS163.drewN | apply IsS163.drew | apply IsS163.set_1 | apply IsS163.set_2) | exact HI0.out)⟩, ⟨by repeat (first | (with_reducible first | exact HK.out | apply KeepBut.set_ | apply keep_drewN | apply keep_drew | apply keep_alloc) | exact HK.out)⟩, ⟨by repeat (first | (with_reducible first | exact HB.out | apply below_alloc | apply pw_below_drewN | apply below_drew1 | refine below_set ?_ (IsS163.ge HI0.out)) | exact HB.out)⟩⟩
  ·rw [if_neg c7] at H
   have c7b0 : decide (a2 < 2) = false := decide_eq_false c7
   clear c7
   (first | rw [c7b0] | (simp only [i64_w, i32_w]; rw [c7b0]) | skip)
   by_cases c8 : t1108 < 2
   ·rw [if_pos c8] at H
    have c8b0 : decide (t1108 < 2) = true := decide_eq_true c8
    clear c8
    have H' := Aside0.mk H
    clear H
    go_wp2
    go_meet
    case rel => exact ⟨_, (true), (eW), H', ⟨by first | omega | exact Nat.le_refl _⟩, ⟨by repeat (first | (with_reducible first | exact HI0.out | apply IsS163.alloc | apply IsS163.drewN | apply IsS163.drew | apply IsS163.set_1 | apply IsS163.set_2) | exact HI0.out)⟩, ⟨by repeat (first | (with_reducible first | exact HK.out | apply KeepBut.set_ | apply keep_drewN | apply keep_drew | apply keep_alloc) | exact HK.out)⟩, ⟨by repeat (first | (with_reducible first | exact HB.out | apply below_alloc | apply pw_below_drewN | apply below_drew1 | refine below_set ?_ (IsS163.ge HI0.out)) | exact HB.out)⟩⟩
   ·rw [if_neg c8] at H
    have c8b0 : decide (t1108 < 2) = false := decide_eq_false c8
    clear c8
    have H' := Aside0.mk H
    clear H
    go_wp2
    go_meet
    case rel => exact ⟨_, ((a1 == 0)), (eW), H', ⟨by first | omega | exact Nat.le_refl _⟩, ⟨by repeat (first | (with_reducible first | exact HI0.out | apply IsS163.alloc | apply IsS163.drewN | apply IsS163.drew | apply IsS163.set_1 | apply IsS163.set_2) | exact HI0.out)⟩, ⟨by repeat (first | (with_reducible first | exact HK.out | apply KeepBut.set_ | apply keep_drewN | apply keep_drew | apply keep_alloc) | exact HK.out)⟩, ⟨by repeat (first | (with_reducible first | exact HB.out | apply below_alloc | apply pw_below_drewN | apply below_drew1 | refine below_set ?_ (IsS163.ge HI0.out)) | exact HB.out)⟩⟩
 case rest =>
  clear HC5
  try clear c1
  try clear p2
  try clear c7
  try clear c7b0
  try clear c8
  try clear c8b0
  obtain ⟨kq, x12_4, rfl, HA, HJ4, HI0, HK, HB⟩ := hcut
  cases kq with
  | zero => exact absurd HA.out (by simp [spec_l13Grow.j0])
  | succ kj4 =>
   have H := HA.out
   clear HA
   simp only [spec_l13Grow.j0] at H
   by_cases c9 : x12_4 = true
   ·subst c9
    have H1 : (if a1 = 0 then (spec_l13Grow.j1 kj4 a1 true s0_0 t1109 t1110) else ((spec_l01Next.f s0_0 t1109 t1110 24).bind fun bt1111 => (spec_l13Grow.j1 kj4 a1 (bt1111.1 == 0) s0_0 bt1111.2.1 bt1111.2.2))) = some (r1, r2, r3) := by rw [if_pos rfl] at H; exact H
    clear H
    have H := H1
    clear H1
    have HC10 := Aside0.mk H
    clear H
    go_upto_region 3 with (fail)
    go_cut [29] (fun v29 wc => ∃ (kq : Nat) (x29_9 : Bool) (x1001_9 : Int) (x1002_9 : Int), v29 = .bool x29_9 ∧ Aside0 (spec_l13Grow.j1 kq a1 x29_9 s0_0 x1001_9 x1002_9 = some (r1, r2, r3)) ∧ Aside0 (kq ≤ kj4) ∧ Aside0 (IsS163 w0 wc g s0_0 x1001_9 x1002_9) ∧ Aside0 (KeepBut w wc g none) ∧ Aside0 (Below w0.heap.size w0 wc))
    case first =>
     have H := HC10.out
     clear HC10
     by_cases c11 : a1 = 0
     ·rw [if_pos c11] at H
      have c11b0 : (a1 == 0) = true := beq_iff_eq.mpr c11
      have c11b1 : (a1 != 0) = false := bne_eq_false_iff_eq.mpr c11
      clear c11
      (first | rw [c11b0] | (simp only [i64_w, i32_w]; rw [c11b0]) | skip)
      have H' := Aside0.mk H
      clear H
      go_wp2
      go_meet
      case rel => exact ⟨_, (true), (t1109), (t1110), (eW), H', ⟨by have := HJ4.out; first | omega | exact Nat.le_refl _⟩, ⟨by repeat (first | (with_reducible first | exact HI0.out | apply IsS163.alloc | apply IsS163.drewN | apply IsS163.drew | apply IsS163.set_1 | apply IsS163.set_2) | exact HI0.out)⟩, ⟨by repeat (first | (with_reducible first | exact HK.out | apply KeepBut.set_ | apply keep_drewN | apply keep_drew | apply keep_alloc) | exact HK.out)⟩, ⟨by repeat (first | (with_reducible first | exact HB.out | apply below_alloc | apply pw_below_drewN | apply below_drew1 | refine below_set ?_ (IsS163.ge HI0.out)) | exact HB.out)⟩⟩
     ·rw [if_neg c11] at H
      have c11b0 : (a1 == 0) = false := beq_eq_false_iff_ne.mpr c11
      have c11b1 : (a1 != 0) = true := bne_iff_ne.mpr c11
      (first | rw [c11b0] | (simp only [i64_w, i32_w]; rw [c11b0]) | skip)
      replace H := Option.bind_eq_some_iff.mp H
      obtain ⟨⟨t1111, t1112, t1113⟩, A120, H⟩ := H
      replace H : (spec_l13Grow.j1 kj4 a1 (t1111 == 0) s0_0 t1112 t1113) = some (r1, r2, r3) := H
      have A12 := Aside0.mk A120
      clear A120
      have H' := Aside0.mk H
      clear H
      go_wp2_with (first | (go_at_call 97; (with_reducible refine (spec_l01Next.calls g s0_0 t1109 t1110 24 t1111 t1112 t1113 w0 _ ?side1 ?side2 A12.out).mono ?_); (case side1 => repeat (first | (with_reducible first | exact HI0.out | apply IsS163.alloc | apply IsS163.drewN | apply IsS163.drew | apply IsS163.set_1 | apply IsS163.set_2) | exact HI0.out)); (case side2 => repeat (first | (with_reducible first | exact HB.out | apply below_alloc | apply pw_below_drewN | apply below_drew1 | refine below_set ?_ (IsS163.ge HI0.out)) | exact HB.out)); rintro e w13 ⟨rfl, hi, hb, hk⟩; have n0_ := Aside0.mk (KeepBut.trans (by repeat (first | (with_reducible first | exact HK.out | apply KeepBut.set_ | apply keep_drewN | apply keep_drew | apply keep_alloc) | exact HK.out)) hk (.inl rfl)); have n1_ := Aside0.mk (hb); have n2_ := Aside0.mk (hi); clear HK HB HI0; have HK := n0_; have HB := n1_; have HI0 := n2_; clear n0_ n1_ n2_; (try clear hb); (try clear hb2); (try clear hk); (try clear hi)))
      go_meet
      case rel => exact ⟨_, ((t1111 == 0)), (t1112), (t1113), (eW), H', ⟨by have := HJ4.out; first | omega | exact Nat.le_refl _⟩, ⟨by repeat (first | (with_reducible first | exact HI0.out | apply IsS163.alloc | apply IsS163.drewN | apply IsS163.drew | apply IsS163.set_1 | apply IsS163.set_2) | exact HI0.out)⟩, ⟨by repeat (first | (with_reducible first | exact HK.out | apply KeepBut.set_ | apply keep_drewN | apply keep_drew | apply keep_alloc) | exact HK.out)⟩, ⟨by repeat (first | (with_reducible first | exact HB.out | apply below_alloc | apply pw_below_drewN | apply below_drew1 | refine below_set ?_ (IsS163.ge HI0.out)) | exact HB.out)⟩⟩
    case rest =>
     clear HC10
     try clear c1
     try clear p2
     try clear c7
     try clear c7b0
     try clear c8
     try clear c8b0
     try clear c9
     try clear c11
     try clear c11b0
     try clear c11b1
     try clear p2
     obtain ⟨kq, x29_9, x1001_9, x1002_9, rfl, HA, HJ9, HI0, HK, HB⟩ := hcut
     cases kq with
     | zero => exact absurd HA.out (by simp [spec_l13Grow.j1])
     | succ kj9 =>
      have H := HA.out
      clear HA
      simp only [spec_l13Grow.j1] at H
      by_cases c14 : x29_9 = true
      ·subst c14
       have H1 : ((spec_l01Next.f s0_0 x1001_9 x1002_9 2).bind fun bt1114 => (some ((([(⟨bt1114.1, 0⟩ : S84)] : List (S84))), bt1114.2.1, bt1114.2.2))) = some (r1, r2, r3) := by rw [if_pos rfl] at H; exact H
       clear H
       have H := H1
       clear H1
       replace H := Option.bind_eq_some_iff.mp H
       obtain ⟨⟨t1114, t1115, t1116⟩, A150, H⟩ := H
       replace H : (some ((([(⟨t1114, 0⟩ : S84)] : List (S84))), t1115, t1116)) = some (r1, r2, r3) := H
       have A15 := Aside0.mk A150
       clear A150
       obtain ⟨y1117, hy1117⟩ : ∃ y_ : List (S84), y_ = (([(⟨t1114, 0⟩ : S84)] : List (S84))) := ⟨_, rfl⟩
       replace H : (some (y1117, t1115, t1116)) = some (r1, r2, r3) := by first | (rw [hy1117]; with_reducible exact H) | (have H2_ := (Option.bind_some _ _).symm.trans H; rw [hy1117]; with_reducible exact H2_) | (have H2_ := (Option.bind_some _ _).symm.trans H; with_reducible exact H2_) | with_reducible exact H | (rw [hy1117]; exact H) | exact H
       have Ny1117 := Aside0.mk hy1117
       clear hy1117
       simp only [Option.some.injEq, Prod.mk.injEq] at H
       obtain ⟨rfl, rfl, rfl⟩ := H
       go_wp2_with (first | ((with_reducible refine gate_callee (f := 97) rfl ?_); refine goesS (some 31) Tryd.func97 #[.pointer (some ⟨g, 0, none⟩), .int .i64 2] ?_; (with_reducible refine (spec_l01Next.calls g s0_0 x1001_9 x1002_9 2 t1114 t1115 t1116 w0 _ ?side1 ?side2 A15.out).mono ?_); (case side1 => repeat (first | (with_reducible first | exact HI0.out | apply IsS163.alloc | apply IsS163.drewN | apply IsS163.drew | apply IsS163.set_1 | apply IsS163.set_2) | exact HI0.out)); (case side2 => repeat (first | (with_reducible first | exact HB.out | apply below_alloc | apply pw_below_drewN | apply below_drew1 | refine below_set ?_ (IsS163.ge HI0.out)) | exact HB.out)); rintro e w16 ⟨rfl, hi, hb, hk⟩; refine ⟨_, rfl, ?_⟩; have n0_ := Aside0.mk (KeepBut.trans (by repeat (first | (with_reducible first | exact HK.out | apply KeepBut.set_ | apply keep_drewN | apply keep_drew | apply keep_alloc) | exact HK.out)) hk (.inl rfl)); have n1_ := Aside0.mk (hb); have n2_ := Aside0.mk (hi); clear HK HB HI0; have HK := n0_; have HB := n1_; have HI0 := n2_; clear n0_ n1_ n2_; (try clear hb); (try clear hb2); (try clear hk); (try clear hi)) | ((with_reducible refine gate_dst (N := 33) rfl ?_); refine Kd.R_lit k84 _ 84 ?hg (N := 33) ?hd (xs := ([(⟨t1114, 0⟩ : S84)] : List (S84))) (inner := [.int .i64 t1114, .int .i64 0]) (ok := fun _ => True) (okp := fun _ => True) ?hr ?hp (fun _ hk => hk) trivial (Below.refl _ _) (Nat.le_refl _) (by simp) ?_; (case hd => rfl); (case hg => rfl); (case hr => first | (go_simp; done) | (go_simp; rfl)); (case hp => exact (Reps.c2 (show Kd.M k84 _ _ _ (⟨t1114, 0⟩ : S84) [.int .i64 t1114, .int .i64 0] from (k84_mkM _ _ _ (⟨t1114, 0⟩ : S84) )) (Reps.none _ _))); intro v1118 w17 ho18 hb hg_ hnew_; clear hg_ hnew_; (first | rw [← Ny1117.out] at ho18 | (simp only [Int.reduceToNat] at ho18; rw [← Ny1117.out] at ho18)); have n0_ := Aside0.mk (Kd.R_lower ho18 (keep_size (w := w) (g := g) (row := none) (by repeat (first | (with_reducible first | exact HK.out | apply KeepBut.set_ | apply keep_drewN | apply keep_drew | apply keep_alloc) | exact HK.out)))); have n1_ := Aside0.mk (IsS163.below (by repeat (first | (with_reducible first | exact HI0.out | apply IsS163.alloc | apply IsS163.drewN | apply IsS163.drew | apply IsS163.set_1 | apply IsS163.set_2) | exact HI0.out)) hb); have n2_ := Aside0.mk (KeepBut.trans (by repeat (first | (with_reducible first | exact HK.out | apply KeepBut.set_ | apply keep_drewN | apply keep_drew | apply keep_alloc) | exact HK.out)) (KeepBut.of_below hb g none) (.inl rfl)); have n3_ := Aside0.mk (below_step (by repeat (first | (with_reducible first | exact HB.out | apply below_alloc | apply pw_below_drewN | apply below_drew1 | refine below_set ?_ (IsS163.ge HI0.out)) | exact HB.out)) hb); clear HI0 HK HB; have HO1119 := n0_; have HI0 := n1_; have HK := n2_; have HB := n3_; clear n0_ n1_ n2_ n3_ hb ho18))
       go_ret
       exact ⟨_, eW, (rP HO1119.out), by repeat (first | (with_reducible first | exact HI0.out | apply IsS163.alloc | apply IsS163.drewN | apply IsS163.drew | apply IsS163.set_1 | apply IsS163.set_2) | exact HI0.out), by repeat (first | (with_reducible first | exact HB.out | apply below_alloc | apply pw_below_drewN | apply below_drew1 | refine below_set ?_ (IsS163.ge HI0.out)) | exact HB.out), by repeat (first | (with_reducible first | exact HK.out | apply KeepBut.set_ | apply keep_drewN | apply keep_drew | apply keep_alloc) | exact HK.out)⟩
      ·replace c14 := Bool.eq_false_iff.mpr c14
       subst c14
       have H1 : ((spec_l01Next.f s0_0 x1001_9 x1002_9 a1).bind fun bt1120 => (some ((([(⟨2, bt1120.1⟩ : S84)] : List (S84))), bt1120.2.1, bt1120.2.2))) = some (r1, r2, r3) := by rw [if_neg (show ¬ (false = true) by decide)] at H; exact H
       clear H
       have H := H1
       clear H1
       replace H := Option.bind_eq_some_iff.mp H
       obtain ⟨⟨t1120, t1121, t1122⟩, A190, H⟩ := H
       replace H : (some ((([(⟨2, t1120⟩ : S84)] : List (S84))), t1121, t1122)) = some (r1, r2, r3) := H
       have A19 := Aside0.mk A190
       clear A190
       obtain ⟨y1123, hy1123⟩ : ∃ y_ : List (S84), y_ = (([(⟨2, t1120⟩ : S84)] : List (S84))) := ⟨_, rfl⟩
       replace H : (some (y1123, t1121, t1122)) = some (r1, r2, r3) := by first | (rw [hy1123]; with_reducible exact H) | (have H2_ := (Option.bind_some _ _).symm.trans H; rw [hy1123]; with_reducible exact H2_) | (have H2_ := (Option.bind_some _ _).symm.trans H; with_reducible exact H2_) | with_reducible exact H | (rw [hy1123]; exact H) | exact H
       have Ny1123 := Aside0.mk hy1123
       clear hy1123
       simp only [Option.some.injEq, Prod.mk.injEq] at H
       obtain ⟨rfl, rfl, rfl⟩ := H
       go_wp2_with (first | ((with_reducible refine gate_callee (f := 97) rfl ?_); refine goesS (some 36) Tryd.func97 #[.pointer (some ⟨g, 0, none⟩), .int .i64 a1] ?_; (with_reducible refine (spec_l01Next.calls g s0_0 x1001_9 x1002_9 a1 t1120 t1121 t1122 w0 _ ?side1 ?side2 A19.out).mono ?_); (case side1 => repeat (first | (with_reducible first | exact HI0.out | apply IsS163.alloc | apply IsS163.drewN | apply IsS163.drew | apply IsS163.set_1 | apply IsS163.set_2) | exact HI0.out)); (case side2 => repeat (first | (with_reducible first | exact HB.out | apply below_alloc | apply pw_below_drewN | apply below_drew1 | refine below_set ?_ (IsS163.ge HI0.out)) | exact HB.out)); rintro e w20 ⟨rfl, hi, hb, hk⟩; refine ⟨_, rfl, ?_⟩; have n0_ := Aside0.mk (KeepBut.trans (by repeat (first | (with_reducible first | exact HK.out | apply KeepBut.set_ | apply keep_drewN | apply keep_drew | apply keep_alloc) | exact HK.out)) hk (.inl rfl)); have n1_ := Aside0.mk (hb); have n2_ := Aside0.mk (hi); clear HK HB HI0; have HK := n0_; have HB := n1_; have HI0 := n2_; clear n0_ n1_ n2_; (try clear hb); (try clear hb2); (try clear hk); (try clear hi)) | ((with_reducible refine gate_dst (N := 38) rfl ?_); refine Kd.R_lit k84 _ 84 ?hg (N := 38) ?hd (xs := ([(⟨2, t1120⟩ : S84)] : List (S84))) (inner := [.int .i64 2, .int .i64 t1120]) (ok := fun _ => True) (okp := fun _ => True) ?hr ?hp (fun _ hk => hk) trivial (Below.refl _ _) (Nat.le_refl _) (by simp) ?_; (case hd => rfl); (case hg => rfl); (case hr => first | (go_simp; done) | (go_simp; rfl)); (case hp => exact (Reps.c2 (show Kd.M k84 _ _ _ (⟨2, t1120⟩ : S84) [.int .i64 2, .int .i64 t1120] from (k84_mkM _ _ _ (⟨2, t1120⟩ : S84) )) (Reps.none _ _))); intro v1124 w21 ho22 hb hg_ hnew_; clear hg_ hnew_; (first | rw [← Ny1123.out] at ho22 | (simp only [Int.reduceToNat] at ho22; rw [← Ny1123.out] at ho22)); have n0_ := Aside0.mk (Kd.R_lower ho22 (keep_size (w := w) (g := g) (row := none) (by repeat (first | (with_reducible first | exact HK.out | apply KeepBut.set_ | apply keep_drewN | apply keep_drew | apply keep_alloc) | exact HK.out)))); have n1_ := Aside0.mk (IsS163.below (by repeat (first | (with_reducible first | exact HI0.out | apply IsS163.alloc | apply IsS163.drewN | apply IsS163.drew | apply IsS163.set_1 | apply IsS163.set_2) | exact HI0.out)) hb); have n2_ := Aside0.mk (KeepBut.trans (by repeat (first | (with_reducible first | exact HK.out | apply KeepBut.set_ | apply keep_drewN | apply keep_drew | apply keep_alloc) | exact HK.out)) (KeepBut.of_below hb g none) (.inl rfl)); have n3_ := Aside0.mk (below_step (by repeat (first | (with_reducible first | exact HB.out | apply below_alloc | apply pw_below_drewN | apply below_drew1 | refine below_set ?_ (IsS163.ge HI0.out)) | exact HB.out)) hb); clear HI0 HK HB; have HO1125 := n0_; have HI0 := n1_; have HK := n2_; have HB := n3_; clear n0_ n1_ n2_ n3_ hb ho22))
       go_ret
       exact ⟨_, eW, (rP HO1125.out), by repeat (first | (with_reducible first | exact HI0.out | apply IsS163.alloc | apply IsS163.drewN | apply IsS163.drew | apply IsS163.set_1 | apply IsS163.set_2) | exact HI0.out), by repeat (first | (with_reducible first | exact HB.out | apply below_alloc | apply pw_below_drewN | apply below_drew1 | refine below_set ?_ (IsS163.ge HI0.out)) | exact HB.out), by repeat (first | (with_reducible first | exact HK.out | apply KeepBut.set_ | apply keep_drewN | apply keep_drew | apply keep_alloc) | exact HK.out)⟩
   ·replace c9 := Bool.eq_false_iff.mpr c9
    subst c9
    have H1 : (if a2 < 3 then (spec_l13Grow.j2 kj4 a1 a2 t1108 true s0_0 t1109 t1110) else (spec_l13Grow.j2 kj4 a1 a2 t1108 (decide (t1108 < 4)) s0_0 t1109 t1110)) = some (r1, r2, r3) := by rw [if_neg (show ¬ (false = true) by decide)] at H; exact H
    clear H
    have H := H1
    clear H1
    have HC23 := Aside0.mk H
    clear H
    go_upto_region 6 with (fail)
    go_cut [39] (fun v39 wc => ∃ (kq : Nat) (x39_22 : Bool), v39 = .bool x39_22 ∧ Aside0 (spec_l13Grow.j2 kq a1 a2 t1108 x39_22 s0_0 t1109 t1110 = some (r1, r2, r3)) ∧ Aside0 (kq ≤ kj4) ∧ Aside0 (IsS163 w0 wc g s0_0 t1109 t1110) ∧ Aside0 (KeepBut w wc g none) ∧ Aside0 (Below w0.heap.size w0 wc))
    case first =>
     have H := HC23.out
     clear HC23
     by_cases c24 : a2 < 3
     ·rw [if_pos c24] at H
      have c24b0 : decide (a2 < 3) = true := decide_eq_true c24
      clear c24
      (first | rw [c24b0] | (simp only [i64_w, i32_w]; rw [c24b0]) | skip)
      have H' := Aside0.mk H
      clear H
      go_wp2
      go_meet
      case rel => exact ⟨_, (true), (eW), H', ⟨by have := HJ4.out; first | omega | exact Nat.le_refl _⟩, ⟨by repeat (first | (with_reducible first | exact HI0.out | apply IsS163.alloc | apply IsS163.drewN | apply IsS163.drew | apply IsS163.set_1 | apply IsS163.set_2) | exact HI0.out)⟩, ⟨by repeat (first | (with_reducible first | exact HK.out | apply KeepBut.set_ | apply keep_drewN | apply keep_drew | apply keep_alloc) | exact HK.out)⟩, ⟨by repeat (first | (with_reducible first | exact HB.out | apply below_alloc | apply pw_below_drewN | apply below_drew1 | refine below_set ?_ (IsS163.ge HI0.out)) | exact HB.out)⟩⟩
     ·rw [if_neg c24] at H
      have c24b0 : decide (a2 < 3) = false := decide_eq_false c24
      clear c24
      (first | rw [c24b0] | (simp only [i64_w, i32_w]; rw [c24b0]) | skip)
      have H' := Aside0.mk H
      clear H
      go_wp2
      go_meet
      case rel => exact ⟨_, (decide (t1108 < 4)), (eW), H', ⟨by have := HJ4.out; first | omega | exact Nat.le_refl _⟩, ⟨by repeat (first | (with_reducible first | exact HI0.out | apply IsS163.alloc | apply IsS163.drewN | apply IsS163.drew | apply IsS163.set_1 | apply IsS163.set_2) | exact HI0.out)⟩, ⟨by repeat (first | (with_reducible first | exact HK.out | apply KeepBut.set_ | apply keep_drewN | apply keep_drew | apply keep_alloc) | exact HK.out)⟩, ⟨by repeat (first | (with_reducible first | exact HB.out | apply below_alloc | apply pw_below_drewN | apply below_drew1 | refine below_set ?_ (IsS163.ge HI0.out)) | exact HB.out)⟩⟩
    case rest =>
     clear HC23
     try clear c1
     try clear c2
     try clear p2
     try clear c7
     try clear c7b0
     try clear c8
     try clear c8b0
     try clear c9
     try clear c11
     try clear c11b0
     try clear c11b1
     try clear c14
     try clear c24
     try clear c24b0
     try clear p2
     obtain ⟨kq, x39_22, rfl, HA, HJ22, HI0, HK, HB⟩ := hcut
     cases kq with
     | zero => exact absurd HA.out (by simp [spec_l13Grow.j2])
     | succ kj22 =>
      have H := HA.out
      clear HA
      simp only [spec_l13Grow.j2] at H
      by_cases c25 : x39_22 = true
      ·subst c25
       have H1 : ((some (([(⟨5, 0⟩ : S84)] : List (S84)) : List (S84))).bind fun y1126 => ((spec_l13Grow.f kj22 s0_0 t1109 t1110 a1 (wrap64 (a2 - 1))).bind fun bt1129 => (if y1126.length + bt1129.1.length < 8796093022208 then (some ((y1126 ++ bt1129.1), bt1129.2.1, bt1129.2.2)) else (none)))) = some (r1, r2, r3) := by rw [if_pos rfl] at H; exact H
       clear H
       have H := H1
       clear H1
       obtain ⟨y1126, hy1126⟩ : ∃ y_ : List (S84), y_ = (([(⟨5, 0⟩ : S84)] : List (S84))) := ⟨_, rfl⟩
       replace H : ((spec_l13Grow.f kj22 s0_0 t1109 t1110 a1 (wrap64 (a2 - 1))).bind fun bt1129 => (if y1126.length + bt1129.1.length < 8796093022208 then (some ((y1126 ++ bt1129.1), bt1129.2.1, bt1129.2.2)) else (none))) = some (r1, r2, r3) := by first | (rw [hy1126]; with_reducible exact H) | (have H2_ := (Option.bind_some _ _).symm.trans H; rw [hy1126]; with_reducible exact H2_) | (have H2_ := (Option.bind_some _ _).symm.trans H; with_reducible exact H2_) | with_reducible exact H | (rw [hy1126]; exact H) | exact H
       have Ny1126 := Aside0.mk hy1126
       clear hy1126
       replace H := Option.bind_eq_some_iff.mp H
       obtain ⟨⟨t1129, t1132, t1133⟩, A260, H⟩ := H
       replace H : (if y1126.length + t1129.length < 8796093022208 then (some ((y1126 ++ t1129), t1132, t1133)) else (none)) = some (r1, r2, r3) := H
       have A26 := Aside0.mk A260
       clear A260
       by_cases c27 : y1126.length + t1129.length < 8796093022208
       ·rw [if_pos c27] at H
        have LMc27 := Aside0.mk c27
        clear c27
        obtain ⟨y1134, hy1134⟩ : ∃ y_ : List (S84), y_ = (y1126 ++ t1129) := ⟨_, rfl⟩
        replace H : (some (y1134, t1132, t1133)) = some (r1, r2, r3) := by first | (rw [hy1134]; with_reducible exact H) | (have H2_ := (Option.bind_some _ _).symm.trans H; rw [hy1134]; with_reducible exact H2_) | (have H2_ := (Option.bind_some _ _).symm.trans H; with_reducible exact H2_) | with_reducible exact H | (rw [hy1134]; exact H) | exact H
        have Ny1134 := Aside0.mk hy1134
        clear hy1134
        simp only [Option.some.injEq, Prod.mk.injEq] at H
        obtain ⟨rfl, rfl, rfl⟩ := H
        go_wp2_with (first | ((with_reducible refine gate_dst (N := 47) rfl ?_); refine Kd.R_lit k84 _ 84 ?hg (N := 47) ?hd (xs := ([(⟨5, 0⟩ : S84)] : List (S84))) (inner := [.int .i64 5, .int .i64 0]) (ok := fun _ => True) (okp := fun _ => True) ?hr ?hp (fun _ hk => hk) trivial (Below.refl _ _) (Nat.le_refl _) (by simp) ?_; (case hd => rfl); (case hg => rfl); (case hr => first | (go_simp; done) | (go_simp; rfl)); (case hp => exact (Reps.c2 (show Kd.M k84 _ _ _ (⟨5, 0⟩ : S84) [.int .i64 5, .int .i64 0] from (k84_mkM _ _ _ (⟨5, 0⟩ : S84) )) (Reps.none _ _))); intro v1127 w28 ho29 hb hg_ hnew_; clear hg_ hnew_; (first | rw [← Ny1126.out] at ho29 | (simp only [Int.reduceToNat] at ho29; rw [← Ny1126.out] at ho29)); have n0_ := Aside0.mk (Kd.R_lower ho29 (keep_size (w := w) (g := g) (row := none) (by repeat (first | (with_reducible first | exact HK.out | apply KeepBut.set_ | apply keep_drewN | apply keep_drew | apply keep_alloc) | exact HK.out)))); have n1_ := Aside0.mk (IsS163.below (by repeat (first | (with_reducible first | exact HI0.out | apply IsS163.alloc | apply IsS163.drewN | apply IsS163.drew | apply IsS163.set_1 | apply IsS163.set_2) | exact HI0.out)) hb); have n2_ := Aside0.mk (KeepBut.trans (by repeat (first | (with_reducible first | exact HK.out | apply KeepBut.set_ | apply keep_drewN | apply keep_drew | apply keep_alloc) | exact HK.out)) (KeepBut.of_below hb g none) (.inl rfl)); have n3_ := Aside0.mk (below_step (by repeat (first | (with_reducible first | exact HB.out | apply below_alloc | apply pw_below_drewN | apply below_drew1 | refine below_set ?_ (IsS163.ge HI0.out)) | exact HB.out)) hb); clear HI0 HK HB; have HO1128 := n0_; have HI0 := n1_; have HK := n2_; have HB := n3_; clear n0_ n1_ n2_ n3_ hb ho29) | ((with_reducible refine gate_callee (f := 144) rfl ?_); refine goesS (some 52) Tryd.func144 #[.pointer (some ⟨g, 0, none⟩), .int .i64 a1, .int .i64 (wrap64 (a2 - 1))] ?_; (with_reducible refine (ih kj22 (by have := HJ4.out; have := HJ22.out; omega) g s0_0 t1109 t1110 a1 (wrap64 (a2 - 1)) t1129 t1132 t1133 w0 _ ?side1 ?side2 A26.out).mono ?_); (case side1 => repeat (first | (with_reducible first | exact HI0.out | apply IsS163.alloc | apply IsS163.drewN | apply IsS163.drew | apply IsS163.set_1 | apply IsS163.set_2) | exact HI0.out)); (case side2 => repeat (first | (with_reducible first | exact HB.out | apply below_alloc | apply pw_below_drewN | apply below_drew1 | refine below_set ?_ (IsS163.ge HI0.out)) | exact HB.out)); rintro e w30 ⟨v1130, rfl, ho0, hi, hb, hk⟩; refine ⟨_, rfl, ?_⟩; have n0_ := Aside0.mk (Kd.R_mono (Kd.R_told (Kd.R_oldK (IsS163.apart (show IsS163 w0 _ g s0_0 t1109 t1110 from by repeat (first | (with_reducible first | exact HI0.out | apply IsS163.alloc | apply IsS163.drewN | apply IsS163.drew | apply IsS163.set_1 | apply IsS163.set_2) | exact HI0.out)) (rP HO1128.out) (by decide)) hk) (Kd.R_base ho0)) (fun _ h_ => h_.1)); have n1_ := Aside0.mk (Kd.R_lower (Kd.R_new' ho0 (Kd.R_lt (rP HO1128.out))) (keep_size (w := w) (g := g) (row := none) (by repeat (first | (with_reducible first | exact HK.out | apply KeepBut.set_ | apply keep_drewN | apply keep_drew | apply keep_alloc) | exact HK.out)))); have n2_ := Aside0.mk (KeepBut.trans (by repeat (first | (with_reducible first | exact HK.out | apply KeepBut.set_ | apply keep_drewN | apply keep_drew | apply keep_alloc) | exact HK.out)) hk (.inl rfl)); have n3_ := Aside0.mk (hb); have n4_ := Aside0.mk (hi); clear HO1128 HK HB HI0; have HO1128 := n0_; have HO1131 := n1_; have HK := n2_; have HB := n3_; have HI0 := n4_; clear n0_ n1_ n2_ n3_ n4_; (try clear hb); (try clear hb2); (try clear hk); (try clear hi); (try clear ho0); obtain ⟨Ao32, co32, eo32⟩ := Kd.R_slice HO1131.out; subst eo32) | ((with_reducible refine gate_builtin (b := .append) (xs := #[.tmp 47, .tmp 52]) rfl ?_); at_builtin; refine Kd.R_append_rows k84 w.heap.size rfl (.tmp 47) (.tmp 52) 39 84 (.agg #[(.int .i64 0), (.int .i64 0)]) 16 rfl Tryd.underlying39 info84 rfl (by decide) (by omega) v1127 y1126 t1129 _ _ _ (fun k_ => some k_ ≠ (.slice Ao32 t1129.length co32 : Value).ownBlock) (fun _ => False) rfl rfl ?aO ?aR (fun _ _ h => h) (fun _ h => h.elim) ?aF (Below.refl _ _) ?aS ?aL ?_; (case aR => exact cP ((Kd.R_reads' HO1131.out).2.2)); (case aF => exact (fun k_ hk => Kd.fresh' (Kd.R_lt (rP HO1131.out)) k_ hk)); (case aO => exact (by (with_reducible repeat (first | apply Kd.R_alloc | apply Kd.R_drewN | apply Kd.R_drew)); exact Kd.R_mono HO1128.out (fun _ hk => hk.2))); (case aS => exact (keep_size (w := w) (g := g) (row := none) (by repeat (first | (with_reducible first | exact HK.out | apply KeepBut.set_ | apply keep_drewN | apply keep_drew | apply keep_alloc) | exact HK.out)))); (case aL => have := LMc27.out; omega); intro v1135 w31 ho hb hg hat; rw [← Ny1134.out] at ho; have n0_ := Aside0.mk (IsS163.grown (by repeat (first | (with_reducible first | exact HI0.out | apply IsS163.alloc | apply IsS163.drewN | apply IsS163.drew | apply IsS163.set_1 | apply IsS163.set_2) | exact HI0.out)) hg (IsS163.own_ne HI0.out HO1128.out (by decide))); have n1_ := Aside0.mk (Kd.R_after (ok := (fun _ => True)) (rP HO1131.out) hg hat); have n2_ := Aside0.mk (below_weaken (by repeat (first | (with_reducible first | exact HB.out | apply below_alloc | apply pw_below_drewN | apply below_drew1 | refine below_set ?_ (IsS163.ge HI0.out)) | exact HB.out)) HL.out hb); have n3_ := Aside0.mk (KeepBut.trans (by repeat (first | (with_reducible first | exact HK.out | apply KeepBut.set_ | apply keep_drewN | apply keep_drew | apply keep_alloc) | exact HK.out)) (KeepBut.of_grown hg g) (Kd.R_base2 HO1128.out)); have n4_ := Aside0.mk (ho); clear HI0 HO1131 HB HK HO1128; have HI0 := n0_; have HO1131 := n1_; have HB := n2_; have HK := n3_; have HO1136 := n4_; clear n0_ n1_ n2_ n3_ n4_ ho hb hg hat))
        go_ret
        exact ⟨_, eW, by (with_reducible repeat (first | apply Kd.R_alloc | apply Kd.R_drewN | apply Kd.R_drew)); exact Kd.R_mono HO1136.out (fun _ hk => trivial), by repeat (first | (with_reducible first | exact HI0.out | apply IsS163.alloc | apply IsS163.drewN | apply IsS163.drew | apply IsS163.set_1 | apply IsS163.set_2) | exact HI0.out), by repeat (first | (with_reducible first | exact HB.out | apply below_alloc | apply pw_below_drewN | apply below_drew1 | refine below_set ?_ (IsS163.ge HI0.out)) | exact HB.out), by repeat (first | (with_reducible first | exact HK.out | apply KeepBut.set_ | apply keep_drewN | apply keep_drew | apply keep_alloc) | exact HK.out)⟩
       ·rw [if_neg c27] at H
        exact absurd H (by simp)
      ·replace c25 := Bool.eq_false_iff.mpr c25
       subst c25
       have H1 : ((spec_l13Grow.f kj22 s0_0 t1109 t1110 a1 (wrap64 (a2 - 2))).bind fun bt1137 => ((spec_l13Grow.f kj22 s0_0 bt1137.2.1 bt1137.2.2 a1 (wrap64 ((wrap64 (a2 - 1)) - (bt1137.1.length : Int)))).bind fun bt1142 => ((some (([(⟨wrap64 (3 + (Int.tmod t1108 2)), 0⟩ : S84)] : List (S84)) : List (S84))).bind fun y1147 => (if y1147.length + bt1137.1.length < 8796093022208 then ((some (y1147 ++ bt1137.1 : List (S84))).bind fun y1150 => (if y1150.length + bt1142.1.length < 8796093022208 then (some ((y1150 ++ bt1142.1), bt1142.2.1, bt1142.2.2)) else (none))) else (none))))) = some (r1, r2, r3) := by rw [if_neg (show ¬ (false = true) by decide)] at H; exact H
       clear H
       have H := H1
       clear H1
       replace H := Option.bind_eq_some_iff.mp H
       obtain ⟨⟨t1137, t1140, t1141⟩, A330, H⟩ := H
       replace H : ((spec_l13Grow.f kj22 s0_0 t1140 t1141 a1 (wrap64 ((wrap64 (a2 - 1)) - (t1137.length : Int)))).bind fun bt1142 => ((some (([(⟨wrap64 (3 + (Int.tmod t1108 2)), 0⟩ : S84)] : List (S84)) : List (S84))).bind fun y1147 => (if y1147.length + t1137.length < 8796093022208 then ((some (y1147 ++ t1137 : List (S84))).bind fun y1150 => (if y1150.length + bt1142.1.length < 8796093022208 then (some ((y1150 ++ bt1142.1), bt1142.2.1, bt1142.2.2)) else (none))) else (none)))) = some (r1, r2, r3) := H
       have A33 := Aside0.mk A330
       clear A330
       replace H := Option.bind_eq_some_iff.mp H
       obtain ⟨⟨t1142, t1145, t1146⟩, A340, H⟩ := H
       replace H : ((some (([(⟨wrap64 (3 + (Int.tmod t1108 2)), 0⟩ : S84)] : List (S84)) : List (S84))).bind fun y1147 => (if y1147.length + t1137.length < 8796093022208 then ((some (y1147 ++ t1137 : List (S84))).bind fun y1150 => (if y1150.length + t1142.length < 8796093022208 then (some ((y1150 ++ t1142), t1145, t1146)) else (none))) else (none))) = some (r1, r2, r3) := H
       have A34 := Aside0.mk A340
       clear A340
       obtain ⟨y1147, hy1147⟩ : ∃ y_ : List (S84), y_ = (([(⟨wrap64 (3 + (Int.tmod t1108 2)), 0⟩ : S84)] : List (S84))) := ⟨_, rfl⟩
       replace H : (if y1147.length + t1137.length < 8796093022208 then ((some (y1147 ++ t1137 : List (S84))).bind fun y1150 => (if y1150.length + t1142.length < 8796093022208 then (some ((y1150 ++ t1142), t1145, t1146)) else (none))) else (none)) = some (r1, r2, r3) := by first | (rw [hy1147]; with_reducible exact H) | (have H2_ := (Option.bind_some _ _).symm.trans H; rw [hy1147]; with_reducible exact H2_) | (have H2_ := (Option.bind_some _ _).symm.trans H; with_reducible exact H2_) | with_reducible exact H | (rw [hy1147]; exact H) | exact H
       have Ny1147 := Aside0.mk hy1147
       clear hy1147
       by_cases c35 : y1147.length + t1137.length < 8796093022208
       ·rw [if_pos c35] at H
        have LMc35 := Aside0.mk c35
        clear c35
        obtain ⟨y1150, hy1150⟩ : ∃ y_ : List (S84), y_ = (y1147 ++ t1137) := ⟨_, rfl⟩
        replace H : (if y1150.length + t1142.length < 8796093022208 then (some ((y1150 ++ t1142), t1145, t1146)) else (none)) = some (r1, r2, r3) := by first | (rw [hy1150]; with_reducible exact H) | (have H2_ := (Option.bind_some _ _).symm.trans H; rw [hy1150]; with_reducible exact H2_) | (have H2_ := (Option.bind_some _ _).symm.trans H; with_reducible exact H2_) | with_reducible exact H | (rw [hy1150]; exact H) | exact H
        have Ny1150 := Aside0.mk hy1150
        clear hy1150
        by_cases c36 : y1150.length + t1142.length < 8796093022208
        ·rw [if_pos c36] at H
         have LMc36 := Aside0.mk c36
         clear c36
         obtain ⟨y1153, hy1153⟩ : ∃ y_ : List (S84), y_ = (y1150 ++ t1142) := ⟨_, rfl⟩
         replace H : (some (y1153, t1145, t1146)) = some (r1, r2, r3) := by first | (rw [hy1153]; with_reducible exact H) | (have H2_ := (Option.bind_some _ _).symm.trans H; rw [hy1153]; with_reducible exact H2_) | (have H2_ := (Option.bind_some _ _).symm.trans H; with_reducible exact H2_) | with_reducible exact H | (rw [hy1153]; exact H) | exact H
         have Ny1153 := Aside0.mk hy1153
         clear hy1153
         simp only [Option.some.injEq, Prod.mk.injEq] at H
         obtain ⟨rfl, rfl, rfl⟩ := H
         go_wp2_with (first | ((with_reducible refine gate_callee (f := 144) rfl ?_); refine goesS (some 58) Tryd.func144 #[.pointer (some ⟨g, 0, none⟩), .int .i64 a1, .int .i64 (wrap64 (a2 - 2))] ?_; (with_reducible refine (ih kj22 (by have := HJ4.out; have := HJ22.out; omega) g s0_0 t1109 t1110 a1 (wrap64 (a2 - 2)) t1137 t1140 t1141 w0 _ ?side1 ?side2 A33.out).mono ?_); (case side1 => repeat (first | (with_reducible first | exact HI0.out | apply IsS163.alloc | apply IsS163.drewN | apply IsS163.drew | apply IsS163.set_1 | apply IsS163.set_2) | exact HI0.out)); (case side2 => repeat (first | (with_reducible first | exact HB.out | apply below_alloc | apply pw_below_drewN | apply below_drew1 | refine below_set ?_ (IsS163.ge HI0.out)) | exact HB.out)); rintro e w37 ⟨v1138, rfl, ho0, hi, hb, hk⟩; refine ⟨_, rfl, ?_⟩; have n0_ := Aside0.mk (Kd.R_lower ho0 (keep_size (w := w) (g := g) (row := none) (by repeat (first | (with_reducible first | exact HK.out | apply KeepBut.set_ | apply keep_drewN | apply keep_drew | apply keep_alloc) | exact HK.out)))); have n1_ := Aside0.mk (KeepBut.trans (by repeat (first | (with_reducible first | exact HK.out | apply KeepBut.set_ | apply keep_drewN | apply keep_drew | apply keep_alloc) | exact HK.out)) hk (.inl rfl)); have n2_ := Aside0.mk (hb); have n3_ := Aside0.mk (hi); clear HK HB HI0; have HO1139 := n0_; have HK := n1_; have HB := n2_; have HI0 := n3_; clear n0_ n1_ n2_ n3_; (try clear hb); (try clear hb2); (try clear hk); (try clear hi); (try clear ho0); obtain ⟨Ao38, co38, eo38⟩ := Kd.R_slice HO1139.out; subst eo38) | ((with_reducible refine gate_callee (f := 144) rfl ?_); refine goesS (some 66) Tryd.func144 #[.pointer (some ⟨g, 0, none⟩), .int .i64 a1, .int .i64 (wrap64 ((wrap64 (a2 - 1)) - (t1137.length : Int)))] ?_; (with_reducible refine (ih kj22 (by have := HJ4.out; have := HJ22.out; omega) g s0_0 t1140 t1141 a1 (wrap64 ((wrap64 (a2 - 1)) - (t1137.length : Int))) t1142 t1145 t1146 w0 _ ?side1 ?side2 A34.out).mono ?_); (case side1 => repeat (first | (with_reducible first | exact HI0.out | apply IsS163.alloc | apply IsS163.drewN | apply IsS163.drew | apply IsS163.set_1 | apply IsS163.set_2) | exact HI0.out)); (case side2 => repeat (first | (with_reducible first | exact HB.out | apply below_alloc | apply pw_below_drewN | apply below_drew1 | refine below_set ?_ (IsS163.ge HI0.out)) | exact HB.out)); rintro e w39 ⟨v1143, rfl, ho0, hi, hb, hk⟩; refine ⟨_, rfl, ?_⟩; have n0_ := Aside0.mk (Kd.R_mono (Kd.R_told (Kd.R_oldK (IsS163.apart (show IsS163 w0 _ g s0_0 t1140 t1141 from by repeat (first | (with_reducible first | exact HI0.out | apply IsS163.alloc | apply IsS163.drewN | apply IsS163.drew | apply IsS163.set_1 | apply IsS163.set_2) | exact HI0.out)) (rP HO1139.out) (by decide)) hk) (Kd.R_base ho0)) (fun _ h_ => h_.1)); have n1_ := Aside0.mk (Kd.R_lower (Kd.R_new' ho0 (Kd.R_lt (rP HO1139.out))) (keep_size (w := w) (g := g) (row := none) (by repeat (first | (with_reducible first | exact HK.out | apply KeepBut.set_ | apply keep_drewN | apply keep_drew | apply keep_alloc) | exact HK.out)))); have n2_ := Aside0.mk (KeepBut.trans (by repeat (first | (with_reducible first | exact HK.out | apply KeepBut.set_ | apply keep_drewN | apply keep_drew | apply keep_alloc) | exact HK.out)) hk (.inl rfl)); have n3_ := Aside0.mk (hb); have n4_ := Aside0.mk (hi); clear HO1139 HK HB HI0; have HO1139 := n0_; have HO1144 := n1_; have HK := n2_; have HB := n3_; have HI0 := n4_; clear n0_ n1_ n2_ n3_ n4_; (try clear hb); (try clear hb2); (try clear hk); (try clear hi); (try clear ho0)) | ((with_reducible refine gate_dst (N := 71) rfl ?_); refine Kd.R_lit k84 _ 84 ?hg (N := 71) ?hd (xs := ([(⟨wrap64 (3 + (Int.tmod t1108 2)), 0⟩ : S84)] : List (S84))) (inner := [.int .i64 (wrap64 (3 + (Int.tmod t1108 2))), .int .i64 0]) (ok := fun _ => True) (okp := fun _ => True) ?hr ?hp (fun _ hk => hk) trivial (Below.refl _ _) (Nat.le_refl _) (by simp) ?_; (case hd => rfl); (case hg => rfl); (case hr => first | (go_simp; done) | (go_simp; rfl)); (case hp => exact (Reps.c2 (show Kd.M k84 _ _ _ (⟨wrap64 (3 + (Int.tmod t1108 2)), 0⟩ : S84) [.int .i64 (wrap64 (3 + (Int.tmod t1108 2))), .int .i64 0] from (k84_mkM _ _ _ (⟨wrap64 (3 + (Int.tmod t1108 2)), 0⟩ : S84) )) (Reps.none _ _))); intro v1148 w40 ho41 hb hg_ hnew_; clear hg_ hnew_; (first | rw [← Ny1147.out] at ho41 | (simp only [Int.reduceToNat] at ho41; rw [← Ny1147.out] at ho41)); have n0_ := Aside0.mk (Kd.R_elder' (rP HO1139.out) (Kd.R_base ho41) hb); have n1_ := Aside0.mk (Kd.R_elder' (rP HO1144.out) (Kd.R_base ho41) hb); have n2_ := Aside0.mk (Kd.R_lower (Kd.R_new' (Kd.R_new' ho41 (Kd.R_lt (rP HO1139.out))) (Kd.R_lt (rP HO1144.out))) (keep_size (w := w) (g := g) (row := none) (by repeat (first | (with_reducible first | exact HK.out | apply KeepBut.set_ | apply keep_drewN | apply keep_drew | apply keep_alloc) | exact HK.out)))); have n3_ := Aside0.mk (IsS163.below (by repeat (first | (with_reducible first | exact HI0.out | apply IsS163.alloc | apply IsS163.drewN | apply IsS163.drew | apply IsS163.set_1 | apply IsS163.set_2) | exact HI0.out)) hb); have n4_ := Aside0.mk (KeepBut.trans (by repeat (first | (with_reducible first | exact HK.out | apply KeepBut.set_ | apply keep_drewN | apply keep_drew | apply keep_alloc) | exact HK.out)) (KeepBut.of_below hb g none) (.inl rfl)); have n5_ := Aside0.mk (below_step (by repeat (first | (with_reducible first | exact HB.out | apply below_alloc | apply pw_below_drewN | apply below_drew1 | refine below_set ?_ (IsS163.ge HI0.out)) | exact HB.out)) hb); clear HO1139 HO1144 HI0 HK HB; have HO1139 := n0_; have HO1144 := n1_; have HO1149 := n2_; have HI0 := n3_; have HK := n4_; have HB := n5_; clear n0_ n1_ n2_ n3_ n4_ n5_ hb ho41) | ((with_reducible refine gate_builtin (b := .append) (xs := #[.tmp 71, .tmp 72]) rfl ?_); at_builtin; refine Kd.R_append_rows k84 w.heap.size rfl (.tmp 71) (.tmp 72) 39 84 (.agg #[(.int .i64 0), (.int .i64 0)]) 16 rfl Tryd.underlying39 info84 rfl (by decide) (by omega) v1148 y1147 t1137 _ _ _ (fun k_ => some k_ ≠ (.slice Ao38 t1137.length co38 : Value).ownBlock ∧ some k_ ≠ (v1143 : Value).ownBlock) (fun _ => False) rfl rfl ?aO ?aR (fun _ _ h => h) (fun _ h => h.elim) ?aF (Below.refl _ _) ?aS ?aL ?_; (case aR => exact cP ((Kd.R_reads' HO1139.out).2.2)); (case aF => exact (fun k_ hk => ⟨Kd.fresh' (Kd.R_lt (rP HO1139.out)) k_ hk, Kd.fresh' (Kd.R_lt (rP HO1144.out)) k_ hk⟩)); (case aO => exact (by (with_reducible repeat (first | apply Kd.R_alloc | apply Kd.R_drewN | apply Kd.R_drew)); exact Kd.R_mono HO1149.out (fun _ hk => ⟨hk.1.2, hk.2⟩))); (case aS => exact (keep_size (w := w) (g := g) (row := none) (by repeat (first | (with_reducible first | exact HK.out | apply KeepBut.set_ | apply keep_drewN | apply keep_drew | apply keep_alloc) | exact HK.out)))); (case aL => have := LMc35.out; omega); intro v1151 w42 ho hb hg hat; rw [← Ny1150.out] at ho; have n0_ := Aside0.mk (IsS163.grown (by repeat (first | (with_reducible first | exact HI0.out | apply IsS163.alloc | apply IsS163.drewN | apply IsS163.drew | apply IsS163.set_1 | apply IsS163.set_2) | exact HI0.out)) hg (IsS163.own_ne HI0.out HO1149.out (by decide))); have n1_ := Aside0.mk (Kd.R_after (ok := (fun k_ => some k_ ≠ (v1143 : Value).ownBlock)) (by (with_reducible repeat (first | apply Kd.R_alloc | apply Kd.R_drewN | apply Kd.R_drew)); exact Kd.R_mono HO1139.out (fun _ hk => ⟨hk.1.2, hk.2⟩)) hg hat); have n2_ := Aside0.mk (Kd.R_after (ok := (fun k_ => some k_ ≠ (.slice Ao38 t1137.length co38 : Value).ownBlock)) (by (with_reducible repeat (first | apply Kd.R_alloc | apply Kd.R_drewN | apply Kd.R_drew)); exact Kd.R_mono HO1144.out (fun _ hk => ⟨hk.1.2, hk.2⟩)) hg hat); have n3_ := Aside0.mk (below_weaken (by repeat (first | (with_reducible first | exact HB.out | apply below_alloc | apply pw_below_drewN | apply below_drew1 | refine below_set ?_ (IsS163.ge HI0.out)) | exact HB.out)) HL.out hb); have n4_ := Aside0.mk (KeepBut.trans (by repeat (first | (with_reducible first | exact HK.out | apply KeepBut.set_ | apply keep_drewN | apply keep_drew | apply keep_alloc) | exact HK.out)) (KeepBut.of_grown hg g) (Kd.R_base2 HO1149.out)); have n5_ := Aside0.mk (ho); clear HI0 HO1139 HO1144 HB HK HO1149; have HI0 := n0_; have HO1139 := n1_; have HO1144 := n2_; have HB := n3_; have HK := n4_; have HO1152 := n5_; clear n0_ n1_ n2_ n3_ n4_ n5_ ho hb hg hat; obtain ⟨Ao44, co44, eo44⟩ := Kd.R_slice HO1144.out; subst eo44) | ((with_reducible refine gate_builtin (b := .append) (xs := #[.tmp 73, .tmp 74]) rfl ?_); at_builtin; refine Kd.R_append_rows k84 w.heap.size rfl (.tmp 73) (.tmp 74) 39 84 (.agg #[(.int .i64 0), (.int .i64 0)]) 16 rfl Tryd.underlying39 info84 rfl (by decide) (by omega) v1151 y1150 t1142 _ _ _ (fun k_ => some k_ ≠ (.slice Ao38 t1137.length co38 : Value).ownBlock ∧ some k_ ≠ (.slice Ao44 t1142.length co44 : Value).ownBlock) (fun _ => False) rfl rfl ?aO ?aR (fun _ _ h => h) (fun _ h => h.elim) ?aF (Below.refl _ _) ?aS ?aL ?_; (case aR => exact cP ((Kd.R_reads' HO1144.out).2.2)); (case aF => exact (fun k_ hk => ⟨Kd.fresh' (Kd.R_lt (rP HO1139.out)) k_ hk, Kd.fresh' (Kd.R_lt (rP HO1144.out)) k_ hk⟩)); (case aO => exact (rP HO1152.out)); (case aS => exact (keep_size (w := w) (g := g) (row := none) (by repeat (first | (with_reducible first | exact HK.out | apply KeepBut.set_ | apply keep_drewN | apply keep_drew | apply keep_alloc) | exact HK.out)))); (case aL => have := LMc36.out; omega); intro v1154 w43 ho hb hg hat; rw [← Ny1153.out] at ho; have n0_ := Aside0.mk (IsS163.grown (by repeat (first | (with_reducible first | exact HI0.out | apply IsS163.alloc | apply IsS163.drewN | apply IsS163.drew | apply IsS163.set_1 | apply IsS163.set_2) | exact HI0.out)) hg (IsS163.own_ne HI0.out HO1152.out (by decide))); have n1_ := Aside0.mk (Kd.R_after (ok := (fun k_ => some k_ ≠ (.slice Ao44 t1142.length co44 : Value).ownBlock)) (rP HO1139.out) hg hat); have n2_ := Aside0.mk (Kd.R_after (ok := (fun k_ => some k_ ≠ (.slice Ao38 t1137.length co38 : Value).ownBlock)) (rP HO1144.out) hg hat); have n3_ := Aside0.mk (below_weaken (by repeat (first | (with_reducible first | exact HB.out | apply below_alloc | apply pw_below_drewN | apply below_drew1 | refine below_set ?_ (IsS163.ge HI0.out)) | exact HB.out)) HL.out hb); have n4_ := Aside0.mk (KeepBut.trans (by repeat (first | (with_reducible first | exact HK.out | apply KeepBut.set_ | apply keep_drewN | apply keep_drew | apply keep_alloc) | exact HK.out)) (KeepBut.of_grown hg g) (Kd.R_base2 HO1152.out)); have n5_ := Aside0.mk (ho); clear HI0 HO1139 HO1144 HB HK HO1152; have HI0 := n0_; have HO1139 := n1_; have HO1144 := n2_; have HB := n3_; have HK := n4_; have HO1155 := n5_; clear n0_ n1_ n2_ n3_ n4_ n5_ ho hb hg hat))
         go_ret
         exact ⟨_, eW, by (with_reducible repeat (first | apply Kd.R_alloc | apply Kd.R_drewN | apply Kd.R_drew)); exact Kd.R_mono HO1155.out (fun _ hk => trivial), by repeat (first | (with_reducible first | exact HI0.out | apply IsS163.alloc | apply IsS163.drewN | apply IsS163.drew | apply IsS163.set_1 | apply IsS163.set_2) | exact HI0.out), by repeat (first | (with_reducible first | exact HB.out | apply below_alloc | apply pw_below_drewN | apply below_drew1 | refine below_set ?_ (IsS163.ge HI0.out)) | exact HB.out), by repeat (first | (with_reducible first | exact HK.out | apply KeepBut.set_ | apply keep_drewN | apply keep_drew | apply keep_alloc) | exact HK.out)⟩
        ·rw [if_neg c36] at H
         exact absurd H (by simp)
       ·rw [if_neg c35] at H
        exact absurd H (by simp)
end Go.Proofs.YthbaocejgjpfoaaDoor.P
end M0
