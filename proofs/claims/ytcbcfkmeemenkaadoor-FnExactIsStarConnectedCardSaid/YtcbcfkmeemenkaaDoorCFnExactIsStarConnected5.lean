import Derived.ArgAppend
import Derived.Below
import Derived.BigQuiet
import Derived.Deep.AppendLies
import Derived.Deep.CutBlock
import Derived.Deep.DeepCutAuto
import Derived.Deep.Draws
import Derived.Deep.LoopGhost
import Derived.Deep.OwnRows
import Derived.Deep.QuietTactic
import Derived.Deep.RegionHeld3
import Derived.KernelRfl
import Derived.Laws.BitsLemmas
import Derived.Laws.BytesArg
import Derived.Laws.IdiomCopy
import Derived.Laws.MakeOwn
import Derived.Laws.OwnMore
import Derived.Laws.Rows
import Derived.Laws.Slices
import Derived.Laws.StructEq
import Derived.Lib.AppendStr
import Derived.Lib.ConvBytes
import Derived.Lib.SliceRun
import Derived.Maps.AppendAt
import Derived.OrdersHeld
import Derived.OwnWalk
import Derived.RowKit
import Derived.RowKit3
import Derived.Shelf.Abstract
import Derived.Shelf.SortM.Plain
import Derived.Shelf.SortM.SortNone
import Derived.Shelf.Spec.TrailingZeros
import Derived.Tactics
import Derived.Test.YtcbcfkmeemenkaaDoorProg
import Derived.WalkKit
import Derived.WideLaws
import Derived.Test.YtcbcfkmeemenkaaDoorCFnExactIsStarConnected2
import Derived.Test.YtcbcfkmeemenkaaDoorCFnExactIsStarConnected4
section M0
namespace Go.Proofs.YtcbcfkmeemenkaaDoor.P
open Go.RowKit Go.Proofs.YtcbcfkmeemenkaaDoor.Sh Go.Proofs.YtcbcfkmeemenkaaDoorW.PrintWords Go.Proofs.YtcbcfkmeemenkaaDoorW.PrintLast Go.Proofs.YtcbcfkmeemenkaaDoorW.PrintMore
attribute [local go_sem] max2_int min2_int max_two min_two max_three min_three max_four min_four   -- for this text's walks alone
set_option linter.unusedVariables false
set_option linter.unusedSimpArgs false
/-! ### impl_termEnd: function 38 -/
mutual
def impl_termEnd.j0 : Nat → List (S50) → Int → Bool → Int → List Int → Option (Int)
 | 0, _, _, _, _, _ => none
 | k + 1, x1, x2, x20, x229000, x229001 => if x20 = true then (some (-1)) else (if 0 ≤ x2 then (if x2 < (x1.length : Int) then (if ((rd_T50 x1 x2).f0) = 2 then ((impl_isLetter.f x229000 x229001 ((rd_T50 x1 x2).f1)).bind fun t233 => (if t233 = true then (impl_termEnd.j1 k x1 x2 false x229000 x229001) else (impl_termEnd.j1 k x1 x2 true x229000 x229001))) else (impl_termEnd.j1 k x1 x2 (((rd_T50 x1 x2).f1) != 0) x229000 x229001)) else (none)) else (none))
def impl_termEnd.j1 : Nat → List (S50) → Int → Bool → Int → List Int → Option (Int)
 | 0, _, _, _, _, _ => none
 | k + 1, x1, x2, x52, x229000, x229001 => if x52 = true then (some (-1)) else (if 0 ≤ x2 then (if x2 < (x1.length : Int) then ((impl_partsIn.f ((rd_T50 x1 x2).f0)).bind fun t238 => (impl_termEnd.l0 k x1 (wrap64 (x2 + 1)) t238 0 x229000 x229001)) else (none)) else (none))
def impl_termEnd.l0 : Nat → List (S50) → Int → Int → Int → Int → List Int → Option (Int)
 | 0, _, _, _, _, _, _ => none
 | k + 1, x1, x7, x60, x61, x229000, x229001 => if x61 < x60 then ((impl_termEnd.f k x229000 x229001 x1 x7).bind fun t239 => (if t239 < 0 then (some (-1)) else (impl_termEnd.l0 k x1 t239 x60 (wrap64 (x61 + 1)) x229000 x229001))) else (some x7)
def impl_termEnd.f : Nat → Int → List Int → List (S50) → Int → Option (Int)
 | 0, _, _, _, _ => none
 | k + 1, a0_0, l0_1, l1, a2 => if a2 ≥ (l1.length : Int) then (impl_termEnd.j0 k l1 a2 true a0_0 l0_1) else (if 0 ≤ a2 then (if a2 < (l1.length : Int) then ((impl_inRange.f ((rd_T50 l1 a2).f0) 0 5).bind fun t230 => (impl_termEnd.j0 k l1 a2 (!t230) a0_0 l0_1)) else (none)) else (none))
end
def impl_termEnd.T3 : Bool × List (List Nat × List Nat) := (true, [([], []), ([], []), ([0, 1], [0, 1]), ([2], [2]), ([3], [3]), ([4], [4]), ([5], [5]), ([6], [6]), ([6], [6]), ([6], [6]), ([8, 9, 6], [6, 8, 9]), ([10, 6], [6, 10]), ([11, 6], [6, 11]), ([7, 12, 6, 6], [6, 7, 12]), ([13, 6], [6, 13]), ([6, 14], [6, 14]), ([15, 13], [15]), ([16], [16]), ([16], [16]), ([17, 18, 16], [16, 17, 18]), ([19, 16], [16, 19]), ([20, 16], [16, 20]), ([21, 16], [16, 21]), ([22, 16, 16], [16, 22]), ([23], [23]), ([23], [23]), ([24, 25, 23], [23, 24, 25]), ([26, 23], [23, 26]), ([27, 23], [23, 27]), ([28, 23], [23, 28]), ([23, 29, 16], [16, 23, 29]), ([16, 30], [16, 30])])
def impl_termEnd.B3 : List Nat := [0, 0, 3, 7, 15, 31, 63, 127, 127, 127, 895, 1919, 3967, 8191, 16383, 32767, 65535, 131071, 131071, 524287, 1048575, 2097151, 4194303, 8388607, 16777215, 16777215, 67108863, 134217727, 268435455, 536870911, 1073741823, 2147483647]
theorem impl_termEnd.tab3 : rtab .any (opsOf Tryd.f38 3) = impl_termEnd.T3 := by kernel_rfl
theorem impl_termEnd.bits3 : waitsOk impl_termEnd.T3.2 impl_termEnd.B3 = true := by kernel_rfl
set_option maxHeartbeats 8000000 in
set_option maxRecDepth 100000 in
theorem impl_termEnd.calls (k : Nat) : ∀ (a0_0 : Int) (A0_1 : Option Addr) (c0_1 : Nat) (l0_1 : List Int) (A1 : Option Addr) (c1 : Nat) (l1 : List (S50)) (a2 : Int) (r : Int) (w : World) (hr0_1 : Kd.C (Kd.int .i64) w A0_1 l0_1.length l0_1) (hc0_1 : l0_1.length ≤ c0_1) (hr1 : Kd.C k50 w A1 l1.length l1) (hc1 : l1.length ≤ c1) (h : impl_termEnd.f k a0_0 l0_1 l1 a2 = some r),
  Calls Tryd.prog 38 #[.agg #[.int .i64 a0_0, .slice A0_1 l0_1.length c0_1], .slice A1 l1.length c1, .int .i64 a2] w fun e w' => e = .returned (.int .i64 r) ∧ Below w.heap.size w w' := by
 induction k using Nat.strongRecOn with
 | _ k ih =>
 intro a0_0 A0_1 c0_1 l0_1 A1 c1 l1 a2 r w hr0_1 hc0_1 hr1 hc1 h
 cases k with
 | zero => exact absurd h (by simp [impl_termEnd.f])
 | succ k =>
 simp only [impl_termEnd.f] at h
 have hu30 := Tryd.underlying30
 have HR0_1 := Aside0.mk hr0_1
 have HC0_1 := Aside0.mk hc0_1
 clear hr0_1 hc0_1
 have HR1 := Aside0.mk hr1
 have HC1 := Aside0.mk hc1
 clear hr1 hc1
 have HB := Aside0.mk (Below.refl w.heap.size w)
 have H : (if a2 ≥ (l1.length : Int) then (impl_termEnd.j0 k l1 a2 true a0_0 l0_1) else (if 0 ≤ a2 then (if a2 < (l1.length : Int) then ((impl_inRange.f ((rd_T50 l1 a2).f0) 0 5).bind fun t230 => (impl_termEnd.j0 k l1 a2 (!t230) a0_0 l0_1)) else (none)) else (none))) = some r := h
 clear h
 have HC4 := Aside0.mk H
 clear H
 go_enter Tryd.func38, Tryd.ntmps38
 go_upto_region 1 with (first | ((with_reducible refine gate_dst (N := 3) rfl ?_); refine boxS (N := 3) (cs := #[.int .i64 a0_0, .slice A0_1 l0_1.length c0_1]) (t := 30) ?_; intro gb228 hg w5 hbox hb; have n0_ := Aside0.mk (below_step (bW) hb); have n1_ := Aside0.mk (hbox); have n2_ := geW (w := w) hg; have n3_ := geW (w := w) hg; clear HB; have HB := n0_; have BK228 := n1_; have GW228 := n2_; have GE228 := n3_; clear n0_ n1_ n2_ n3_ hb hbox hg))
 (try simp only [Act.put, List.setIfInBounds_toArray, List.set_cons_zero, List.set_cons_succ])
 go_cut [20] (fun v20 wc => ∃ (kq : Nat) (x20_3 : Bool), v20 = .bool x20_3 ∧ Aside0 (impl_termEnd.j0 kq l1 a2 x20_3 a0_0 l0_1 = some r) ∧ Aside0 (kq ≤ k) ∧ Aside0 (wc.heap[gb228]? = some (.cells #[.int .i64 a0_0, (.slice A0_1 l0_1.length c0_1)] 30 (0, 0))) ∧ Aside0 (Below w.heap.size w wc))
 case first =>
  have H := HC4.out
  clear HC4
  by_cases c6 : a2 ≥ (l1.length : Int)
  ·rw [if_pos c6] at H
   have c6b0 : decide ((l1.length : Int) ≤ a2) = true := decide_eq_true c6
   clear c6
   (first | rw [c6b0] | (simp only [i64_w, i32_w]; rw [c6b0]) | skip)
   have H' := Aside0.mk H
   clear H
   go_wp2
   go_meet
   case rel => exact ⟨_, (true), (eW), H', ⟨by first | omega | exact Nat.le_refl _⟩, ⟨(bP BK228.out)⟩, ⟨bW⟩⟩
  ·rw [if_neg c6] at H
   have c6b0 : decide ((l1.length : Int) ≤ a2) = false := decide_eq_false c6
   clear c6
   (first | rw [c6b0] | (simp only [i64_w, i32_w]; rw [c6b0]) | skip)
   by_cases c7 : 0 ≤ a2
   ·rw [if_pos c7] at H
    have c7b0 : decide (0 ≤ a2) = true := decide_eq_true c7
    clear c7
    by_cases c8 : a2 < (l1.length : Int)
    ·rw [if_pos c8] at H
     have c8b0 : decide (a2 < (l1.length : Int)) = true := decide_eq_true c8
     clear c8
     replace H := Option.bind_eq_some_iff.mp H
     obtain ⟨t230, A90, H⟩ := H
     replace H : (impl_termEnd.j0 k l1 a2 (!t230) a0_0 l0_1) = some r := H
     have A9 := Aside0.mk A90
     clear A90
     have H' := Aside0.mk H
     clear H
     have p229 : 0 ≤ (a2 : Int) := ofD
     have q229 : a2 < (l1.length : Int) := ofD
     obtain ⟨ad229, e229, hx229_0, hx229_1⟩ := at_T50 HR1.out a2 p229 q229
     cases e229
     replace hx229_0 := (HB.out.cell (World.block_lt_of_cell? w _ hx229_0)).trans hx229_0
     replace hx229_1 := (HB.out.cell (World.block_lt_of_cell? w _ hx229_1)).trans hx229_1
     replace p229 := eq_true p229
     replace q229 := eq_true q229
     go_wp2_with (first | (go_at_call 50; (with_reducible refine (impl_inRange.calls ((rd_T50 l1 a2).f0) 0 5 t230 _ A9.out).mono ?_); rintro e w' ⟨rfl, ⟨nd, rfl⟩⟩))
     go_meet
     case rel => exact ⟨_, (!t230), (eW), H', ⟨by first | omega | exact Nat.le_refl _⟩, ⟨(bP BK228.out)⟩, ⟨bW⟩⟩
    ·rw [if_neg c8] at H
     exact absurd H (by simp)
   ·rw [if_neg c7] at H
    exact absurd H (by simp)
 case rest =>
  clear HC4
  try clear c1
  try clear p2
  try clear q2
  try clear hx2
  try clear c3
  try clear c6
  try clear c6b0
  try clear c7
  try clear c7b0
  try clear c8
  try clear c8b0
  try clear hx229_0
  try clear hx229_1
  try clear p229
  try clear q229
  obtain ⟨kq, x20_3, rfl, HA, HJ3, BK228, HB⟩ := hcut
  cases kq with
  | zero => exact absurd HA.out (by simp [impl_termEnd.j0])
  | succ kj3 =>
   have H := HA.out
   clear HA
   simp only [impl_termEnd.j0] at H
   by_cases c10 : x20_3 = true
   ·subst c10
    have H1 : (some (-1)) = some r := by rw [if_pos rfl] at H; exact H
    clear H
    have H := H1
    clear H1
    obtain rfl := Option.some.inj H
    go_wp2
    go_ret
    exact ⟨eW, bW⟩
   ·replace c10 := Bool.eq_false_iff.mpr c10
    subst c10
    have H1 : (if 0 ≤ a2 then (if a2 < (l1.length : Int) then (if ((rd_T50 l1 a2).f0) = 2 then ((impl_isLetter.f a0_0 l0_1 ((rd_T50 l1 a2).f1)).bind fun t233 => (if t233 = true then (impl_termEnd.j1 kj3 l1 a2 false a0_0 l0_1) else (impl_termEnd.j1 kj3 l1 a2 true a0_0 l0_1))) else (impl_termEnd.j1 kj3 l1 a2 (((rd_T50 l1 a2).f1) != 0) a0_0 l0_1)) else (none)) else (none)) = some r := by rw [if_neg (show ¬ (false = true) by decide)] at H; exact H
    clear H
    have H := H1
    clear H1
    have HC11 := Aside0.mk H
    clear H
    go_upto_region 3 with (fail)
    go_cut [52] (fun v52 wc => ∃ (kq : Nat) (x52_10 : Bool), v52 = .bool x52_10 ∧ Aside0 (impl_termEnd.j1 kq l1 a2 x52_10 a0_0 l0_1 = some r) ∧ Aside0 (kq ≤ kj3) ∧ Aside0 (wc.heap[gb228]? = some (.cells #[.int .i64 a0_0, (.slice A0_1 l0_1.length c0_1)] 30 (0, 0))) ∧ Aside0 (Below w.heap.size w wc))
    case first =>
     have H := HC11.out
     clear HC11
     by_cases c12 : 0 ≤ a2
     ·rw [if_pos c12] at H
      have c12b0 : decide (0 ≤ a2) = true := decide_eq_true c12
      clear c12
      (first | rw [c12b0] | (simp only [i64_w, i32_w]; rw [c12b0]) | skip)
      by_cases c13 : a2 < (l1.length : Int)
      ·rw [if_pos c13] at H
       have c13b0 : decide (a2 < (l1.length : Int)) = true := decide_eq_true c13
       clear c13
       by_cases c14 : ((rd_T50 l1 a2).f0) = 2
       ·rw [if_pos c14] at H
        have c14b0 : (((rd_T50 l1 a2).f0) == 2) = true := beq_iff_eq.mpr c14
        have c14b1 : (((rd_T50 l1 a2).f0) != 2) = false := bne_eq_false_iff_eq.mpr c14
        clear c14
        replace H := Option.bind_eq_some_iff.mp H
        obtain ⟨t233, A150, H⟩ := H
        replace H : (if t233 = true then (impl_termEnd.j1 kj3 l1 a2 false a0_0 l0_1) else (impl_termEnd.j1 kj3 l1 a2 true a0_0 l0_1)) = some r := H
        have A15 := Aside0.mk A150
        clear A150
        by_cases c16 : t233 = true
        ·subst c16
         have H1 : (impl_termEnd.j1 kj3 l1 a2 false a0_0 l0_1) = some r := by rw [if_pos rfl] at H; exact H
         clear H
         have H := H1
         clear H1
         have H' := Aside0.mk H
         clear H
         try go_wp2
         have n0_ := Aside0.mk (blk_drew BK228.out)
         have n1_ := Aside0.mk (below_drew1 HB.out)
         clear BK228 HB; have BK228 := n0_; have HB := n1_; clear n0_ n1_
         have p231 : 0 ≤ (a2 : Int) := ofD
         have q231 : a2 < (l1.length : Int) := ofD
         obtain ⟨ad231, e231, hx231_0, hx231_1⟩ := at_T50 HR1.out a2 p231 q231
         have hw231_1 := hx231_1
         have hw231_0 := hx231_0
         cases e231
         replace hx231_0 := (HB.out.cell (World.block_lt_of_cell? w _ hx231_0)).trans hx231_0
         replace hx231_1 := (HB.out.cell (World.block_lt_of_cell? w _ hx231_1)).trans hx231_1
         replace p231 := eq_true p231
         replace q231 := eq_true q231
         have p232 : 0 ≤ (a2 : Int) := ofD
         have q232 : a2 < (l1.length : Int) := ofD
         obtain ⟨ad232, e232, hx232_0, hx232_1⟩ := at_T50 HR1.out a2 p232 q232
         have hw232_1 := hx232_1
         have hw232_0 := hx232_0
         obtain rfl : ad231 = ad232 := (by injection e232)
         replace hx232_0 := (HB.out.cell (World.block_lt_of_cell? w _ hx232_0)).trans hx232_0
         replace hx232_1 := (HB.out.cell (World.block_lt_of_cell? w _ hx232_1)).trans hx232_1
         replace p232 := eq_true p232
         replace q232 := eq_true q232
         have p234 : 0 ≤ (a2 : Int) := ofD
         have q234 : a2 < (l1.length : Int) := ofD
         obtain ⟨ad234, e234, hx234_0, hx234_1⟩ := at_T50 HR1.out a2 p234 q234
         have hw234_1 := hx234_1
         have hw234_0 := hx234_0
         obtain rfl : ad231 = ad234 := (by injection e234)
         replace hx234_0 := (HB.out.cell (World.block_lt_of_cell? w _ hx234_0)).trans hx234_0
         replace hx234_1 := (HB.out.cell (World.block_lt_of_cell? w _ hx234_1)).trans hx234_1
         replace p234 := eq_true p234
         replace q234 := eq_true q234
         refine start_ (n := 32) (S := fun w' => w'.cell? ⟨gb228, 0, none⟩ = some (.int .i64 a0_0) ∧ w'.cell? ⟨gb228, 1, none⟩ = some (.slice A0_1 l0_1.length c0_1) ∧ w'.cell? (ad231.add ((a2).toNat * 2)) = some (.int .i64 ((rd_T50 l1 a2).f0)) ∧ w'.cell? ⟨(ad231.add ((a2).toNat * 2)).block, (ad231.add ((a2).toNat * 2)).off + 1, none⟩ = some (.int .i64 ((rd_T50 l1 a2).f1)) ∧ w'.cell? (ad231.add ((a2).toNat * 2)) = some (.int .i64 ((rd_T50 l1 a2).f0)) ∧ w'.cell? ⟨(ad231.add ((a2).toNat * 2)).block, (ad231.add ((a2).toNat * 2)).off + 1, none⟩ = some (.int .i64 ((rd_T50 l1 a2).f1)) ∧ w'.cell? (ad231.add ((a2).toNat * 2)) = some (.int .i64 ((rd_T50 l1 a2).f0)) ∧ w'.cell? ⟨(ad231.add ((a2).toNat * 2)).block, (ad231.add ((a2).toNat * 2)).off + 1, none⟩ = some (.int .i64 ((rd_T50 l1 a2).f1))) (ds := []) #[false, false, false, false, false, false, false, false, false, false, false, false, false, false, false, false, false, false, false, false, false, false, false, false, false, false, false, false, false, false, false, false] (by kernel_rfl) rfl rfl ⟨(blk_cell BK228.out 0).trans rfl, (blk_cell BK228.out 1).trans rfl, ((HB.out.cell (World.block_lt_of_cell? w _ hw231_0)).trans hw231_0), ((HB.out.cell (World.block_lt_of_cell? w _ hw231_1)).trans hw231_1), ((HB.out.cell (World.block_lt_of_cell? w _ hw232_0)).trans hw232_0), ((HB.out.cell (World.block_lt_of_cell? w _ hw232_1)).trans hw232_1), ((HB.out.cell (World.block_lt_of_cell? w _ hw234_0)).trans hw234_0), ((HB.out.cell (World.block_lt_of_cell? w _ hw234_1)).trans hw234_1)⟩ (fun hHeld => ?_); refine with_tabW impl_termEnd.tab3 impl_termEnd.bits3 (fun HT_ HW_ => ?_)
         generalize wc.drew = w17 at BK228 HB hx231_0 hx231_1 hx232_0 hx232_1 hx234_0 hx234_1 hHeld ⊢
         refine pureS (i := 0) (N := some 21) (any_of HT_.out (by kernel_rfl)) ?_
         refine pureS (i := 1) (N := some 22) (any_of HT_.out (by kernel_rfl)) ?_
         refine pureS (i := 2) (N := some 23) (any_of HT_.out (by kernel_rfl)) ?_
         refine pureS (i := 3) (N := some 24) (any_of HT_.out (by kernel_rfl)) ?_
         refine takeS (i := 4) (N := some 25) (take_ofW HT_.out HW_.out (by kernel_rfl)) hHeld ?_
         refine pureS (i := 5) (N := some 26) (any_of HT_.out (by kernel_rfl)) ?_
         refine pureS (i := 6) (N := some 27) (any_of HT_.out (by kernel_rfl)) ?_
         refine pureS (i := 8) (N := some 29) (any_of HT_.out (by kernel_rfl)) ?_
         refine pureS (i := 9) (N := some 30) (any_of HT_.out (by kernel_rfl)) ?_
         refine pureS (i := 10) (N := some 31) (any_of HT_.out (by kernel_rfl)) ?_
         refine pureS (i := 11) (N := some 32) (any_of HT_.out (by kernel_rfl)) ?_
         refine takeS (i := 7) (N := some 28) (take_ofW HT_.out HW_.out (by kernel_rfl)) hHeld ?_
         refine takeS (i := 12) (N := some 33) (take_ofW HT_.out HW_.out (by kernel_rfl)) hHeld ?_
         refine one_ (i := 13) (N := some 34) #[true, true, true, true, true, true, true, true, true, true, true, true, true, true, false, false, false, false, false, false, false, false, false, false, false, false, false, false, false, false, false, false] rfl rfl (one_of HT_.out (by kernel_rfl)) (by decide) (fun K hK => ?_)
         refine goes_ Tryd.func55 (by kernel_rfl) rfl #[.agg #[.int .i64 a0_0, .slice A0_1 l0_1.length c0_1], .int .i64 ((rd_T50 l1 a2).f1)] (by rfl) rfl rfl (by (try simp only [List.map_toArray, List.map_cons, List.map_nil]); first | done | rfl | (simp only [List.length_drop, List.length_take]; rfl)) ?_
         with_reducible refine (impl_isLetter.calls a0_0 _ _ l0_1 ((rd_T50 l1 a2).f1) true _ ?side1 ?side2 A15.out).mono ?_
         (case side1 => exact cP (Kd.C_below HR0_1.out HB.out))
         (case side2 => exact HC0_1.out)
         rintro e w18 ⟨rfl, hb⟩
         refine ⟨_, rfl, ?_⟩
         have n0_ := Aside0.mk (blkB BK228.out hb)
         have n1_ := Aside0.mk (below_step (bW) hb)
         clear BK228 HB; have BK228 := n0_; have HB := n1_; clear n0_ n1_
         (try clear hb)
         (try clear hb2)
         (try clear hk)
         (try clear hi)
         refine hK.out _ _ ⟨(blk_cell BK228.out 0).trans rfl, (blk_cell BK228.out 1).trans rfl, ((HB.out.cell (World.block_lt_of_cell? w _ hw231_0)).trans hw231_0), ((HB.out.cell (World.block_lt_of_cell? w _ hw231_1)).trans hw231_1), ((HB.out.cell (World.block_lt_of_cell? w _ hw232_0)).trans hw232_0), ((HB.out.cell (World.block_lt_of_cell? w _ hw232_1)).trans hw232_1), ((HB.out.cell (World.block_lt_of_cell? w _ hw234_0)).trans hw234_0), ((HB.out.cell (World.block_lt_of_cell? w _ hw234_1)).trans hw234_1)⟩ (fun hHeld => ?_)
         clear hK K
         refine norm_ (a' := ?_) ?_ ?_
         rotate_left
         ·show Act.put _ (some 34) _ = _
          simp only [Act.put, List.setIfInBounds_toArray, List.set_cons_zero, List.set_cons_succ, i64_w, i32_w]
          rfl
         refine pureS (i := 14) (N := some 35) (any_of HT_.out (by kernel_rfl)) ?_
         refine pureS (i := 15) (N := some 36) (any_of HT_.out (by kernel_rfl)) ?_
         refine pureS (i := 16) (N := some 37) (any_of HT_.out (by kernel_rfl)) ?_
         refine pureS (i := 17) (N := some 38) (any_of HT_.out (by kernel_rfl)) ?_
         refine pureS (i := 18) (N := some 39) (any_of HT_.out (by kernel_rfl)) ?_
         refine pureS (i := 19) (N := some 40) (any_of HT_.out (by kernel_rfl)) ?_
         refine pureS (i := 20) (N := some 41) (any_of HT_.out (by kernel_rfl)) ?_
         refine takeS (i := 21) (N := some 42) (take_ofW HT_.out HW_.out (by kernel_rfl)) hHeld ?_
         refine pureS (i := 22) (N := some 43) (any_of HT_.out (by kernel_rfl)) ?_
         refine pureS (i := 23) (N := some 44) (any_of HT_.out (by kernel_rfl)) ?_
         refine pureU (i := 24) (N := some 45) (any_of HT_.out (by kernel_rfl)) ?_
         refine pureU (i := 25) (N := some 46) (any_of HT_.out (by kernel_rfl)) ?_
         refine pureU (i := 26) (N := some 47) (any_of HT_.out (by kernel_rfl)) ?_
         refine pureU (i := 27) (N := some 48) (any_of HT_.out (by kernel_rfl)) ?_
         refine pureU (i := 28) (N := some 49) (any_of HT_.out (by kernel_rfl)) ?_
         refine pureU (i := 29) (N := some 50) (any_of HT_.out (by kernel_rfl)) ?_
         refine pureS (i := 30) (N := some 51) (any_of HT_.out (by kernel_rfl)) ?_
         refine pureS (i := 31) (N := some 52) (any_of HT_.out (by kernel_rfl)) ?_
         refine done_ (done_of HT_.out (by kernel_rfl)) ?_
         try go_wp2
         go_meet
         case rel => exact ⟨_, (false), (eW), H', ⟨by have := HJ3.out; first | omega | exact Nat.le_refl _⟩, ⟨(bP BK228.out)⟩, ⟨bW⟩⟩
        ·replace c16 := Bool.eq_false_iff.mpr c16
         subst c16
         have H1 : (impl_termEnd.j1 kj3 l1 a2 true a0_0 l0_1) = some r := by rw [if_neg (show ¬ (false = true) by decide)] at H; exact H
         clear H
         have H := H1
         clear H1
         have H' := Aside0.mk H
         clear H
         try go_wp2
         have n0_ := Aside0.mk (blk_drew BK228.out)
         have n1_ := Aside0.mk (below_drew1 HB.out)
         clear BK228 HB; have BK228 := n0_; have HB := n1_; clear n0_ n1_
         have p231 : 0 ≤ (a2 : Int) := ofD
         have q231 : a2 < (l1.length : Int) := ofD
         obtain ⟨ad231, e231, hx231_0, hx231_1⟩ := at_T50 HR1.out a2 p231 q231
         have hw231_1 := hx231_1
         have hw231_0 := hx231_0
         cases e231
         replace hx231_0 := (HB.out.cell (World.block_lt_of_cell? w _ hx231_0)).trans hx231_0
         replace hx231_1 := (HB.out.cell (World.block_lt_of_cell? w _ hx231_1)).trans hx231_1
         replace p231 := eq_true p231
         replace q231 := eq_true q231
         have p232 : 0 ≤ (a2 : Int) := ofD
         have q232 : a2 < (l1.length : Int) := ofD
         obtain ⟨ad232, e232, hx232_0, hx232_1⟩ := at_T50 HR1.out a2 p232 q232
         have hw232_1 := hx232_1
         have hw232_0 := hx232_0
         obtain rfl : ad231 = ad232 := (by injection e232)
         replace hx232_0 := (HB.out.cell (World.block_lt_of_cell? w _ hx232_0)).trans hx232_0
         replace hx232_1 := (HB.out.cell (World.block_lt_of_cell? w _ hx232_1)).trans hx232_1
         replace p232 := eq_true p232
         replace q232 := eq_true q232
         refine start_ (n := 32) (S := fun w' => w'.cell? ⟨gb228, 0, none⟩ = some (.int .i64 a0_0) ∧ w'.cell? ⟨gb228, 1, none⟩ = some (.slice A0_1 l0_1.length c0_1) ∧ w'.cell? (ad231.add ((a2).toNat * 2)) = some (.int .i64 ((rd_T50 l1 a2).f0)) ∧ w'.cell? ⟨(ad231.add ((a2).toNat * 2)).block, (ad231.add ((a2).toNat * 2)).off + 1, none⟩ = some (.int .i64 ((rd_T50 l1 a2).f1)) ∧ w'.cell? (ad231.add ((a2).toNat * 2)) = some (.int .i64 ((rd_T50 l1 a2).f0)) ∧ w'.cell? ⟨(ad231.add ((a2).toNat * 2)).block, (ad231.add ((a2).toNat * 2)).off + 1, none⟩ = some (.int .i64 ((rd_T50 l1 a2).f1))) (ds := []) #[false, false, false, false, false, false, false, false, false, false, false, false, false, false, false, false, false, false, false, false, false, false, false, false, false, false, false, false, false, false, false, false] (by kernel_rfl) rfl rfl ⟨(blk_cell BK228.out 0).trans rfl, (blk_cell BK228.out 1).trans rfl, ((HB.out.cell (World.block_lt_of_cell? w _ hw231_0)).trans hw231_0), ((HB.out.cell (World.block_lt_of_cell? w _ hw231_1)).trans hw231_1), ((HB.out.cell (World.block_lt_of_cell? w _ hw232_0)).trans hw232_0), ((HB.out.cell (World.block_lt_of_cell? w _ hw232_1)).trans hw232_1)⟩ (fun hHeld => ?_); refine with_tabW impl_termEnd.tab3 impl_termEnd.bits3 (fun HT_ HW_ => ?_)
         generalize wc.drew = w19 at BK228 HB hx231_0 hx231_1 hx232_0 hx232_1 hHeld ⊢
         refine pureS (i := 0) (N := some 21) (any_of HT_.out (by kernel_rfl)) ?_
         refine pureS (i := 1) (N := some 22) (any_of HT_.out (by kernel_rfl)) ?_
         refine pureS (i := 2) (N := some 23) (any_of HT_.out (by kernel_rfl)) ?_
         refine pureS (i := 3) (N := some 24) (any_of HT_.out (by kernel_rfl)) ?_
         refine takeS (i := 4) (N := some 25) (take_ofW HT_.out HW_.out (by kernel_rfl)) hHeld ?_
         refine pureS (i := 5) (N := some 26) (any_of HT_.out (by kernel_rfl)) ?_
         refine pureS (i := 6) (N := some 27) (any_of HT_.out (by kernel_rfl)) ?_
         refine pureS (i := 8) (N := some 29) (any_of HT_.out (by kernel_rfl)) ?_
         refine pureS (i := 9) (N := some 30) (any_of HT_.out (by kernel_rfl)) ?_
         refine pureS (i := 10) (N := some 31) (any_of HT_.out (by kernel_rfl)) ?_
         refine pureS (i := 11) (N := some 32) (any_of HT_.out (by kernel_rfl)) ?_
         refine takeS (i := 7) (N := some 28) (take_ofW HT_.out HW_.out (by kernel_rfl)) hHeld ?_
         refine takeS (i := 12) (N := some 33) (take_ofW HT_.out HW_.out (by kernel_rfl)) hHeld ?_
         refine one_ (i := 13) (N := some 34) #[true, true, true, true, true, true, true, true, true, true, true, true, true, true, false, false, false, false, false, false, false, false, false, false, false, false, false, false, false, false, false, false] rfl rfl (one_of HT_.out (by kernel_rfl)) (by decide) (fun K hK => ?_)
         refine goes_ Tryd.func55 (by kernel_rfl) rfl #[.agg #[.int .i64 a0_0, .slice A0_1 l0_1.length c0_1], .int .i64 ((rd_T50 l1 a2).f1)] (by rfl) rfl rfl (by (try simp only [List.map_toArray, List.map_cons, List.map_nil]); first | done | rfl | (simp only [List.length_drop, List.length_take]; rfl)) ?_
         with_reducible refine (impl_isLetter.calls a0_0 _ _ l0_1 ((rd_T50 l1 a2).f1) false _ ?side1 ?side2 A15.out).mono ?_
         (case side1 => exact cP (Kd.C_below HR0_1.out HB.out))
         (case side2 => exact HC0_1.out)
         rintro e w20 ⟨rfl, hb⟩
         refine ⟨_, rfl, ?_⟩
         have n0_ := Aside0.mk (blkB BK228.out hb)
         have n1_ := Aside0.mk (below_step (bW) hb)
         clear BK228 HB; have BK228 := n0_; have HB := n1_; clear n0_ n1_
         (try clear hb)
         (try clear hb2)
         (try clear hk)
         (try clear hi)
         refine hK.out _ _ ⟨(blk_cell BK228.out 0).trans rfl, (blk_cell BK228.out 1).trans rfl, ((HB.out.cell (World.block_lt_of_cell? w _ hw231_0)).trans hw231_0), ((HB.out.cell (World.block_lt_of_cell? w _ hw231_1)).trans hw231_1), ((HB.out.cell (World.block_lt_of_cell? w _ hw232_0)).trans hw232_0), ((HB.out.cell (World.block_lt_of_cell? w _ hw232_1)).trans hw232_1)⟩ (fun hHeld => ?_)
         clear hK K
         refine norm_ (a' := ?_) ?_ ?_
         rotate_left
         ·show Act.put _ (some 34) _ = _
          simp only [Act.put, List.setIfInBounds_toArray, List.set_cons_zero, List.set_cons_succ, i64_w, i32_w]
          rfl
         refine pureS (i := 14) (N := some 35) (any_of HT_.out (by kernel_rfl)) ?_
         refine pureS (i := 15) (N := some 36) (any_of HT_.out (by kernel_rfl)) ?_
         refine pureS (i := 16) (N := some 37) (any_of HT_.out (by kernel_rfl)) ?_
         refine pureU (i := 17) (N := some 38) (any_of HT_.out (by kernel_rfl)) ?_
         refine pureU (i := 18) (N := some 39) (any_of HT_.out (by kernel_rfl)) ?_
         refine pureU (i := 19) (N := some 40) (any_of HT_.out (by kernel_rfl)) ?_
         refine pureU (i := 20) (N := some 41) (any_of HT_.out (by kernel_rfl)) ?_
         refine pureU (i := 21) (N := some 42) (any_of HT_.out (by kernel_rfl)) ?_
         refine pureU (i := 22) (N := some 43) (any_of HT_.out (by kernel_rfl)) ?_
         refine pureU (i := 23) (N := some 44) (any_of HT_.out (by kernel_rfl)) ?_
         refine pureU (i := 24) (N := some 45) (any_of HT_.out (by kernel_rfl)) ?_
         refine pureU (i := 25) (N := some 46) (any_of HT_.out (by kernel_rfl)) ?_
         refine pureU (i := 26) (N := some 47) (any_of HT_.out (by kernel_rfl)) ?_
         refine pureU (i := 27) (N := some 48) (any_of HT_.out (by kernel_rfl)) ?_
         refine pureU (i := 28) (N := some 49) (any_of HT_.out (by kernel_rfl)) ?_
         refine pureU (i := 29) (N := some 50) (any_of HT_.out (by kernel_rfl)) ?_
         refine pureU (i := 30) (N := some 51) (any_of HT_.out (by kernel_rfl)) ?_
         refine pureS (i := 31) (N := some 52) (any_of HT_.out (by kernel_rfl)) ?_
         refine done_ (done_of HT_.out (by kernel_rfl)) ?_
         try go_wp2
         go_meet
         case rel => exact ⟨_, (true), (eW), H', ⟨by have := HJ3.out; first | omega | exact Nat.le_refl _⟩, ⟨(bP BK228.out)⟩, ⟨bW⟩⟩
       ·rw [if_neg c14] at H
        have c14b0 : (((rd_T50 l1 a2).f0) == 2) = false := beq_eq_false_iff_ne.mpr c14
        have c14b1 : (((rd_T50 l1 a2).f0) != 2) = true := bne_iff_ne.mpr c14
        have H' := Aside0.mk H
        clear H
        try go_wp2
        have n0_ := Aside0.mk (blk_drew BK228.out)
        have n1_ := Aside0.mk (below_drew1 HB.out)
        clear BK228 HB; have BK228 := n0_; have HB := n1_; clear n0_ n1_
        have p231 : 0 ≤ (a2 : Int) := ofD
        have q231 : a2 < (l1.length : Int) := ofD
        obtain ⟨ad231, e231, hx231_0, hx231_1⟩ := at_T50 HR1.out a2 p231 q231
        have hw231_1 := hx231_1
        have hw231_0 := hx231_0
        cases e231
        replace hx231_0 := (HB.out.cell (World.block_lt_of_cell? w _ hx231_0)).trans hx231_0
        replace hx231_1 := (HB.out.cell (World.block_lt_of_cell? w _ hx231_1)).trans hx231_1
        replace p231 := eq_true p231
        replace q231 := eq_true q231
        have p235 : 0 ≤ (a2 : Int) := ofD
        have q235 : a2 < (l1.length : Int) := ofD
        obtain ⟨ad235, e235, hx235_0, hx235_1⟩ := at_T50 HR1.out a2 p235 q235
        have hw235_1 := hx235_1
        have hw235_0 := hx235_0
        obtain rfl : ad231 = ad235 := (by injection e235)
        replace hx235_0 := (HB.out.cell (World.block_lt_of_cell? w _ hx235_0)).trans hx235_0
        replace hx235_1 := (HB.out.cell (World.block_lt_of_cell? w _ hx235_1)).trans hx235_1
        replace p235 := eq_true p235
        replace q235 := eq_true q235
        have p236 : 0 ≤ (a2 : Int) := ofD
        have q236 : a2 < (l1.length : Int) := ofD
        obtain ⟨ad236, e236, hx236_0, hx236_1⟩ := at_T50 HR1.out a2 p236 q236
        have hw236_1 := hx236_1
        have hw236_0 := hx236_0
        obtain rfl : ad231 = ad236 := (by injection e236)
        replace hx236_0 := (HB.out.cell (World.block_lt_of_cell? w _ hx236_0)).trans hx236_0
        replace hx236_1 := (HB.out.cell (World.block_lt_of_cell? w _ hx236_1)).trans hx236_1
        replace p236 := eq_true p236
        replace q236 := eq_true q236
        refine start_ (n := 32) (S := fun w' => w'.cell? (ad231.add ((a2).toNat * 2)) = some (.int .i64 ((rd_T50 l1 a2).f0)) ∧ w'.cell? ⟨(ad231.add ((a2).toNat * 2)).block, (ad231.add ((a2).toNat * 2)).off + 1, none⟩ = some (.int .i64 ((rd_T50 l1 a2).f1)) ∧ w'.cell? (ad231.add ((a2).toNat * 2)) = some (.int .i64 ((rd_T50 l1 a2).f0)) ∧ w'.cell? ⟨(ad231.add ((a2).toNat * 2)).block, (ad231.add ((a2).toNat * 2)).off + 1, none⟩ = some (.int .i64 ((rd_T50 l1 a2).f1)) ∧ w'.cell? (ad231.add ((a2).toNat * 2)) = some (.int .i64 ((rd_T50 l1 a2).f0)) ∧ w'.cell? ⟨(ad231.add ((a2).toNat * 2)).block, (ad231.add ((a2).toNat * 2)).off + 1, none⟩ = some (.int .i64 ((rd_T50 l1 a2).f1))) (ds := []) #[false, false, false, false, false, false, false, false, false, false, false, false, false, false, false, false, false, false, false, false, false, false, false, false, false, false, false, false, false, false, false, false] (by kernel_rfl) rfl rfl ⟨((HB.out.cell (World.block_lt_of_cell? w _ hw231_0)).trans hw231_0), ((HB.out.cell (World.block_lt_of_cell? w _ hw231_1)).trans hw231_1), ((HB.out.cell (World.block_lt_of_cell? w _ hw235_0)).trans hw235_0), ((HB.out.cell (World.block_lt_of_cell? w _ hw235_1)).trans hw235_1), ((HB.out.cell (World.block_lt_of_cell? w _ hw236_0)).trans hw236_0), ((HB.out.cell (World.block_lt_of_cell? w _ hw236_1)).trans hw236_1)⟩ (fun hHeld => ?_); refine with_tabW impl_termEnd.tab3 impl_termEnd.bits3 (fun HT_ HW_ => ?_)
        generalize wc.drew = w21 at BK228 HB hx231_0 hx231_1 hx235_0 hx235_1 hx236_0 hx236_1 hHeld ⊢
        refine pureS (i := 0) (N := some 21) (any_of HT_.out (by kernel_rfl)) ?_
        refine pureS (i := 1) (N := some 22) (any_of HT_.out (by kernel_rfl)) ?_
        refine pureS (i := 2) (N := some 23) (any_of HT_.out (by kernel_rfl)) ?_
        refine pureS (i := 3) (N := some 24) (any_of HT_.out (by kernel_rfl)) ?_
        refine takeS (i := 4) (N := some 25) (take_ofW HT_.out HW_.out (by kernel_rfl)) hHeld ?_
        refine pureS (i := 5) (N := some 26) (any_of HT_.out (by kernel_rfl)) ?_
        refine pureS (i := 6) (N := some 27) (any_of HT_.out (by kernel_rfl)) ?_
        refine pureU (i := 7) (N := some 28) (any_of HT_.out (by kernel_rfl)) ?_
        refine pureU (i := 8) (N := some 29) (any_of HT_.out (by kernel_rfl)) ?_
        refine pureU (i := 9) (N := some 30) (any_of HT_.out (by kernel_rfl)) ?_
        refine pureU (i := 10) (N := some 31) (any_of HT_.out (by kernel_rfl)) ?_
        refine pureU (i := 11) (N := some 32) (any_of HT_.out (by kernel_rfl)) ?_
        refine pureU (i := 12) (N := some 33) (any_of HT_.out (by kernel_rfl)) ?_
        refine pureU (i := 13) (N := some 34) (any_of HT_.out (by kernel_rfl)) ?_
        refine pureU (i := 14) (N := some 35) (any_of HT_.out (by kernel_rfl)) ?_
        refine pureS (i := 15) (N := some 36) (any_of HT_.out (by kernel_rfl)) ?_
        refine pureS (i := 16) (N := some 37) (any_of HT_.out (by kernel_rfl)) ?_
        refine pureS (i := 17) (N := some 38) (any_of HT_.out (by kernel_rfl)) ?_
        refine pureS (i := 18) (N := some 39) (any_of HT_.out (by kernel_rfl)) ?_
        refine pureS (i := 19) (N := some 40) (any_of HT_.out (by kernel_rfl)) ?_
        refine pureS (i := 20) (N := some 41) (any_of HT_.out (by kernel_rfl)) ?_
        refine takeS (i := 21) (N := some 42) (take_ofW HT_.out HW_.out (by kernel_rfl)) hHeld ?_
        refine pureS (i := 22) (N := some 43) (any_of HT_.out (by kernel_rfl)) ?_
        refine pureS (i := 23) (N := some 44) (any_of HT_.out (by kernel_rfl)) ?_
        refine pureS (i := 24) (N := some 45) (any_of HT_.out (by kernel_rfl)) ?_
        refine pureS (i := 25) (N := some 46) (any_of HT_.out (by kernel_rfl)) ?_
        refine pureS (i := 26) (N := some 47) (any_of HT_.out (by kernel_rfl)) ?_
        refine pureS (i := 27) (N := some 48) (any_of HT_.out (by kernel_rfl)) ?_
        refine takeS (i := 28) (N := some 49) (take_ofW HT_.out HW_.out (by kernel_rfl)) hHeld ?_
        refine pureS (i := 29) (N := some 50) (any_of HT_.out (by kernel_rfl)) ?_
        refine pureS (i := 30) (N := some 51) (any_of HT_.out (by kernel_rfl)) ?_
        refine pureS (i := 31) (N := some 52) (any_of HT_.out (by kernel_rfl)) ?_
        refine done_ (done_of HT_.out (by kernel_rfl)) ?_
        try go_wp2
        go_meet
        case rel => exact ⟨_, ((((rd_T50 l1 a2).f1) != 0)), (eW), H', ⟨by have := HJ3.out; first | omega | exact Nat.le_refl _⟩, ⟨(bP BK228.out)⟩, ⟨bW⟩⟩
      ·rw [if_neg c13] at H
       exact absurd H (by simp)
     ·rw [if_neg c12] at H
      exact absurd H (by simp)
    case rest =>
     clear HC11
     try clear c1
     try clear p2
     try clear q2
     try clear hx2
     try clear c5
     try clear c12
     try clear c13
     try clear c14
     try clear c14b0
     try clear c14b1
     try clear c16
     try clear hx231_0
     try clear hx231_1
     try clear hx232_0
     try clear hx232_1
     try clear hx235_0
     try clear hx235_1
     try clear hx236_0
     try clear hx236_1
     try clear p231
     try clear p232
     try clear p235
     try clear p236
     try clear q231
     try clear q232
     try clear q235
     try clear q236
     obtain ⟨kq, x52_10, rfl, HA, HJ10, BK228, HB⟩ := hcut
     cases kq with
     | zero => exact absurd HA.out (by simp [impl_termEnd.j1])
     | succ kj10 =>
      have H := HA.out
      clear HA
      simp only [impl_termEnd.j1] at H
      by_cases c22 : x52_10 = true
      ·subst c22
       have H1 : (some (-1)) = some r := by rw [if_pos rfl] at H; exact H
       clear H
       have H := H1
       clear H1
       obtain rfl := Option.some.inj H
       go_wp2
       go_ret
       exact ⟨eW, bW⟩
      ·replace c22 := Bool.eq_false_iff.mpr c22
       subst c22
       have H1 : (if 0 ≤ a2 then (if a2 < (l1.length : Int) then ((impl_partsIn.f ((rd_T50 l1 a2).f0)).bind fun t238 => (impl_termEnd.l0 kj10 l1 (wrap64 (a2 + 1)) t238 0 a0_0 l0_1)) else (none)) else (none)) = some r := by rw [if_neg (show ¬ (false = true) by decide)] at H; exact H
       clear H
       have H := H1
       clear H1
       by_cases c23 : 0 ≤ a2
       ·rw [if_pos c23] at H
        have c23b0 : decide (0 ≤ a2) = true := decide_eq_true c23
        clear c23
        by_cases c24 : a2 < (l1.length : Int)
        ·rw [if_pos c24] at H
         have c24b0 : decide (a2 < (l1.length : Int)) = true := decide_eq_true c24
         clear c24
         replace H := Option.bind_eq_some_iff.mp H
         obtain ⟨t238, A250, H⟩ := H
         replace H : (impl_termEnd.l0 kj10 l1 (wrap64 (a2 + 1)) t238 0 a0_0 l0_1) = some r := H
         have A25 := Aside0.mk A250
         clear A250
         have H' := Aside0.mk H
         clear H
         have p237 : 0 ≤ (a2 : Int) := ofD
         have q237 : a2 < (l1.length : Int) := ofD
         obtain ⟨ad237, e237, hx237_0, hx237_1⟩ := at_T50 HR1.out a2 p237 q237
         cases e237
         replace hx237_0 := (HB.out.cell (World.block_lt_of_cell? w _ hx237_0)).trans hx237_0
         replace hx237_1 := (HB.out.cell (World.block_lt_of_cell? w _ hx237_1)).trans hx237_1
         replace p237 := eq_true p237
         replace q237 := eq_true q237
         go_wp2_with (first | ((with_reducible refine gate_callee (f := 56) rfl ?_); refine goesS (some 60) Tryd.func56 #[.int .i64 ((rd_T50 l1 a2).f0)] ?_; (with_reducible refine (impl_partsIn.calls ((rd_T50 l1 a2).f0) t238 _ A25.out).mono ?_); rintro e w' ⟨rfl, ⟨nd, rfl⟩⟩; refine ⟨_, rfl, ?_⟩))
         go_loopg [7, 61] kj10 (fun kq v7 v61 w' => ∃ (x7_3 : Int) (x61_3 : Int), v7 = .int .i64 x7_3 ∧ v61 = .int .i64 x61_3 ∧ Aside0 (impl_termEnd.l0 kq l1 x7_3 t238 x61_3 a0_0 l0_1 = some r) ∧ Aside0 (kq ≤ kj10) ∧ Aside0 (w'.heap[gb228]? = some (.cells #[.int .i64 a0_0, (.slice A0_1 l0_1.length c0_1)] 30 (0, 0))) ∧ Aside0 (Below w.heap.size w w'))
         case atStart => exact ⟨(wrap64 (a2 + 1)), (0), (eW), (eW), H', ⟨Nat.le_refl _⟩, ⟨(bP BK228.out)⟩, ⟨bW⟩⟩
         case round =>
          clear H'
          try clear c1
          try clear c2
          try clear p2
          try clear q2
          try clear hx2
          try clear c5
          try clear p6
          try clear c12
          try clear c13
          try clear c14
          try clear c14b0
          try clear c14b1
          try clear c16
          try clear c22
          try clear c23
          try clear c23b0
          try clear p23
          try clear q23
          try clear hx23
          try clear c24
          try clear c24b0
          try clear hx231_0
          try clear hx231_1
          try clear hx232_0
          try clear hx232_1
          try clear hx235_0
          try clear hx235_1
          try clear hx236_0
          try clear hx236_1
          try clear hx237_0
          try clear hx237_1
          try clear p2
          try clear p231
          try clear p232
          try clear p235
          try clear p236
          try clear p237
          try clear q2
          try clear q231
          try clear q232
          try clear q235
          try clear q236
          try clear q237
          obtain ⟨x7_3, x61_3, rfl, rfl, HA, HK3, BK228, HB⟩ := hrel
          cases gk with
          | zero => exact absurd HA.out (by simp [impl_termEnd.l0])
          | succ k3 =>
           have H := HA.out
           clear HA
           simp only [impl_termEnd.l0] at H
           by_cases c26 : x61_3 < t238
           ·rw [if_pos c26] at H
            have c26b0 : decide (x61_3 < t238) = true := decide_eq_true c26
            clear c26
            replace H := Option.bind_eq_some_iff.mp H
            obtain ⟨t239, A270, H⟩ := H
            replace H : (if t239 < 0 then (some (-1)) else (impl_termEnd.l0 k3 l1 t239 t238 (wrap64 (x61_3 + 1)) a0_0 l0_1)) = some r := H
            have A27 := Aside0.mk A270
            clear A270
            by_cases c28 : t239 < 0
            ·rw [if_pos c28] at H
             have c28b0 : decide (t239 < 0) = true := decide_eq_true c28
             clear c28
             obtain rfl := Option.some.inj H
             have hcz29_0 : wr.cell? ⟨gb228, 0, none⟩ = some (.int .i64 a0_0) := (blk_cell BK228.out 0).trans rfl
             have hcz29_1 : wr.cell? ⟨gb228, 1, none⟩ = some (.slice A0_1 l0_1.length c0_1) := (blk_cell BK228.out 1).trans rfl
             have hfz29_0 := blk_frozen BK228.out 0
             have hfz29_1 := blk_frozen BK228.out 1
             go_wp2_with (first | ((with_reducible refine gate_callee (f := 38) rfl ?_); refine goesS (some 66) Tryd.func38 #[.agg #[.int .i64 a0_0, .slice A0_1 l0_1.length c0_1], .slice (some ad237) l1.length c1, .int .i64 x7_3] ?_; (with_reducible refine (ih k3 (by have := HJ3.out; have := HJ10.out; have := HK3.out; omega) a0_0 _ _ l0_1 _ _ l1 x7_3 t239 _ ?side1 ?side2 ?side3 ?side4 A27.out).mono ?_); (case side1 => exact cP (Kd.C_below HR0_1.out HB.out)); (case side2 => exact HC0_1.out); (case side3 => exact cP (Kd.C_below HR1.out HB.out)); (case side4 => exact HC1.out); rintro e w30 ⟨rfl, hb⟩; refine ⟨_, rfl, ?_⟩; have n0_ := Aside0.mk (blkB BK228.out hb); have n1_ := Aside0.mk (below_step (bW) hb); clear BK228 HB; have BK228 := n0_; have HB := n1_; clear n0_ n1_; (try clear hb); (try clear hb2); (try clear hk); (try clear hi)))
             go_ret
             exact ⟨eW, bW⟩
            ·rw [if_neg c28] at H
             have c28b0 : decide (t239 < 0) = false := decide_eq_false c28
             clear c28
             have H' := Aside0.mk H
             clear H
             have hcz31_0 : wr.cell? ⟨gb228, 0, none⟩ = some (.int .i64 a0_0) := (blk_cell BK228.out 0).trans rfl
             have hcz31_1 : wr.cell? ⟨gb228, 1, none⟩ = some (.slice A0_1 l0_1.length c0_1) := (blk_cell BK228.out 1).trans rfl
             have hfz31_0 := blk_frozen BK228.out 0
             have hfz31_1 := blk_frozen BK228.out 1
             go_wp2_with (first | ((with_reducible refine gate_callee (f := 38) rfl ?_); refine goesS (some 66) Tryd.func38 #[.agg #[.int .i64 a0_0, .slice A0_1 l0_1.length c0_1], .slice (some ad237) l1.length c1, .int .i64 x7_3] ?_; (with_reducible refine (ih k3 (by have := HJ3.out; have := HJ10.out; have := HK3.out; omega) a0_0 _ _ l0_1 _ _ l1 x7_3 t239 _ ?side1 ?side2 ?side3 ?side4 A27.out).mono ?_); (case side1 => exact cP (Kd.C_below HR0_1.out HB.out)); (case side2 => exact HC0_1.out); (case side3 => exact cP (Kd.C_below HR1.out HB.out)); (case side4 => exact HC1.out); rintro e w32 ⟨rfl, hb⟩; refine ⟨_, rfl, ?_⟩; have n0_ := Aside0.mk (blkB BK228.out hb); have n1_ := Aside0.mk (below_step (bW) hb); clear BK228 HB; have BK228 := n0_; have HB := n1_; clear n0_ n1_; (try clear hb); (try clear hb2); (try clear hk); (try clear hi)))
             go_roundg k3
             case measure => have := HJ3.out; have := HJ10.out; have := HK3.out; omega
             case rel => exact ⟨(t239), (wrap64 (x61_3 + 1)), (eW), (eW), H', ⟨by have := HJ3.out; have := HJ10.out; have := HK3.out; omega⟩, ⟨(bP BK228.out)⟩, ⟨bW⟩⟩
           ·rw [if_neg c26] at H
            have c26b0 : decide (x61_3 < t238) = false := decide_eq_false c26
            clear c26
            obtain rfl := Option.some.inj H
            go_wp2
            go_ret
            exact ⟨eW, bW⟩
        ·rw [if_neg c24] at H
         exact absurd H (by simp)
       ·rw [if_neg c23] at H
        exact absurd H (by simp)
/-! ### impl_IsExpression: function 28 -/
def impl_IsExpression.f (k : Nat) (a0_0 : Int) (l0_1 : List Int) (l1 : List (S50)) : Option (Bool) := (impl_IsAlphabet.f k a0_0 l0_1).bind fun t241 => (if t241 = true then (if (l1.length : Int) ≥ 1 then (if (l1.length : Int) ≤ 24 then ((impl_termEnd.f k a0_0 l0_1 l1 0).bind fun t242 => (some (t242 == (l1.length : Int)))) else (some false)) else (some false)) else (some false))
set_option maxHeartbeats 8000000 in
set_option maxRecDepth 100000 in
theorem impl_IsExpression.calls (k : Nat) (a0_0 : Int) (A0_1 : Option Addr) (c0_1 : Nat) (l0_1 : List Int) (A1 : Option Addr) (c1 : Nat) (l1 : List (S50)) (r : Bool) (w : World) (hr0_1 : Kd.C (Kd.int .i64) w A0_1 l0_1.length l0_1) (hc0_1 : l0_1.length ≤ c0_1) (hr1 : Kd.C k50 w A1 l1.length l1) (hc1 : l1.length ≤ c1) (h : impl_IsExpression.f k a0_0 l0_1 l1 = some r) (hTab : Tab w) :
  Calls Tryd.prog 28 #[.agg #[.int .i64 a0_0, .slice A0_1 l0_1.length c0_1], .slice A1 l1.length c1] w fun e w' => e = .returned (.bool r) ∧ Below w.heap.size w w' := by
 have HTab := Aside0.mk hTab
 clear hTab
 have hu30 := Tryd.underlying30
 have HR0_1 := Aside0.mk hr0_1
 have HC0_1 := Aside0.mk hc0_1
 clear hr0_1 hc0_1
 have HR1 := Aside0.mk hr1
 have HC1 := Aside0.mk hc1
 clear hr1 hc1
 have HB := Aside0.mk (Below.refl w.heap.size w)
 have H : ((impl_IsAlphabet.f k a0_0 l0_1).bind fun t241 => (if t241 = true then (if (l1.length : Int) ≥ 1 then (if (l1.length : Int) ≤ 24 then ((impl_termEnd.f k a0_0 l0_1 l1 0).bind fun t242 => (some (t242 == (l1.length : Int)))) else (some false)) else (some false)) else (some false))) = some r := h
 clear h
 replace H := Option.bind_eq_some_iff.mp H
 obtain ⟨t241, A30, H⟩ := H
 replace H : (if t241 = true then (if (l1.length : Int) ≥ 1 then (if (l1.length : Int) ≤ 24 then ((impl_termEnd.f k a0_0 l0_1 l1 0).bind fun t242 => (some (t242 == (l1.length : Int)))) else (some false)) else (some false)) else (some false)) = some r := H
 have A3 := Aside0.mk A30
 clear A30
 by_cases c4 : t241 = true
 ·subst c4
  have H1 : (if (l1.length : Int) ≥ 1 then (if (l1.length : Int) ≤ 24 then ((impl_termEnd.f k a0_0 l0_1 l1 0).bind fun t242 => (some (t242 == (l1.length : Int)))) else (some false)) else (some false)) = some r := by rw [if_pos rfl] at H; exact H
  clear H
  have H := H1
  clear H1
  by_cases c5 : (l1.length : Int) ≥ 1
  ·rw [if_pos c5] at H
   have c5b0 : decide (1 ≤ (l1.length : Int)) = true := decide_eq_true c5
   have c5b1 : decide (1 ≤ l1.length) = true := decide_eq_true (by omega)
   clear c5
   by_cases c6 : (l1.length : Int) ≤ 24
   ·rw [if_pos c6] at H
    have c6b0 : decide ((l1.length : Int) ≤ 24) = true := decide_eq_true c6
    have c6b1 : decide (l1.length ≤ 24) = true := decide_eq_true (by omega)
    clear c6
    replace H := Option.bind_eq_some_iff.mp H
    obtain ⟨t242, A70, H⟩ := H
    replace H : (some (t242 == (l1.length : Int))) = some r := H
    have A7 := Aside0.mk A70
    clear A70
    obtain rfl := Option.some.inj H
    go_enter Tryd.func28, Tryd.ntmps28
    go_wp2_with (first | ((with_reducible refine gate_dst (N := 2) rfl ?_); (try (refine gate_guard (by rfl) ?_; dsimp only)); refine boxS (N := 2) (cs := #[.int .i64 a0_0, .slice A0_1 l0_1.length c0_1]) (t := 30) ?_; intro gb240 hg w8 hbox hb; have n0_ := Aside0.mk (below_step (bW) hb); have n1_ := Aside0.mk (hbox); have n2_ := geW (w := w) hg; have n3_ := geW (w := w) hg; clear HB; have HB := n0_; have BK240 := n1_; have GW240 := n2_; have GE240 := n3_; clear n0_ n1_ n2_ n3_ hb hbox hg; obtain ⟨hcz9_0, hcz9_1⟩ := cells2 BK240.out; obtain ⟨hfz9_0, hfz9_1⟩ := frz2 BK240.out) | ((with_reducible refine gate_callee (f := 37) rfl ?_); refine goesS (some 6) Tryd.func37 #[.agg #[.int .i64 a0_0, .slice A0_1 l0_1.length c0_1]] ?_; (with_reducible refine (impl_IsAlphabet.calls k a0_0 _ _ l0_1 true _ ?side1 ?side2 A3.out (tabW HTab.out)).mono ?_); (case side1 => exact cP (Kd.C_below HR0_1.out HB.out)); (case side2 => exact HC0_1.out); rintro e w10 ⟨rfl, hb⟩; refine ⟨_, rfl, ?_⟩; have n0_ := Aside0.mk (blkB BK240.out hb); have n1_ := Aside0.mk (below_step (bW) hb); clear BK240 HB; have BK240 := n0_; have HB := n1_; clear n0_ n1_; (try clear hb); (try clear hb2); (try clear hk); (try clear hi); obtain ⟨hcz11_0, hcz11_1⟩ := cells2 BK240.out; obtain ⟨hfz11_0, hfz11_1⟩ := frz2 BK240.out) | (go_at_call 38; (with_reducible refine (impl_termEnd.calls k a0_0 _ _ l0_1 _ _ l1 0 t242 _ ?side1 ?side2 ?side3 ?side4 A7.out).mono ?_); (case side1 => exact cP (Kd.C_below HR0_1.out HB.out)); (case side2 => exact HC0_1.out); (case side3 => exact cP (Kd.C_below HR1.out HB.out)); (case side4 => exact HC1.out); rintro e w12 ⟨rfl, hb⟩; have n0_ := Aside0.mk (blkB BK240.out hb); have n1_ := Aside0.mk (below_step (bW) hb); clear BK240 HB; have BK240 := n0_; have HB := n1_; clear n0_ n1_; (try clear hb); (try clear hb2); (try clear hk); (try clear hi)))
    go_ret
    exact ⟨eW, bW⟩
   ·rw [if_neg c6] at H
    have c6b0 : decide ((l1.length : Int) ≤ 24) = false := decide_eq_false c6
    have c6b1 : decide (l1.length ≤ 24) = false := decide_eq_false (by omega)
    clear c6
    obtain rfl := Option.some.inj H
    go_enter Tryd.func28, Tryd.ntmps28
    go_wp2_with (first | ((with_reducible refine gate_dst (N := 2) rfl ?_); (try (refine gate_guard (by rfl) ?_; dsimp only)); refine boxS (N := 2) (cs := #[.int .i64 a0_0, .slice A0_1 l0_1.length c0_1]) (t := 30) ?_; intro gb240 hg w13 hbox hb; have n0_ := Aside0.mk (below_step (bW) hb); have n1_ := Aside0.mk (hbox); have n2_ := geW (w := w) hg; have n3_ := geW (w := w) hg; clear HB; have HB := n0_; have BK240 := n1_; have GW240 := n2_; have GE240 := n3_; clear n0_ n1_ n2_ n3_ hb hbox hg; obtain ⟨hcz14_0, hcz14_1⟩ := cells2 BK240.out; obtain ⟨hfz14_0, hfz14_1⟩ := frz2 BK240.out) | ((with_reducible refine gate_callee (f := 37) rfl ?_); refine goesS (some 6) Tryd.func37 #[.agg #[.int .i64 a0_0, .slice A0_1 l0_1.length c0_1]] ?_; (with_reducible refine (impl_IsAlphabet.calls k a0_0 _ _ l0_1 true _ ?side1 ?side2 A3.out (tabW HTab.out)).mono ?_); (case side1 => exact cP (Kd.C_below HR0_1.out HB.out)); (case side2 => exact HC0_1.out); rintro e w15 ⟨rfl, hb⟩; refine ⟨_, rfl, ?_⟩; have n0_ := Aside0.mk (blkB BK240.out hb); have n1_ := Aside0.mk (below_step (bW) hb); clear BK240 HB; have BK240 := n0_; have HB := n1_; clear n0_ n1_; (try clear hb); (try clear hb2); (try clear hk); (try clear hi)))
    go_ret
    exact ⟨eW, bW⟩
  ·rw [if_neg c5] at H
   have c5b0 : decide (1 ≤ (l1.length : Int)) = false := decide_eq_false c5
   have c5b1 : decide (1 ≤ l1.length) = false := decide_eq_false (by omega)
   clear c5
   obtain rfl := Option.some.inj H
   go_enter Tryd.func28, Tryd.ntmps28
   go_wp2_with (first | ((with_reducible refine gate_dst (N := 2) rfl ?_); (try (refine gate_guard (by rfl) ?_; dsimp only)); refine boxS (N := 2) (cs := #[.int .i64 a0_0, .slice A0_1 l0_1.length c0_1]) (t := 30) ?_; intro gb240 hg w16 hbox hb; have n0_ := Aside0.mk (below_step (bW) hb); have n1_ := Aside0.mk (hbox); have n2_ := geW (w := w) hg; have n3_ := geW (w := w) hg; clear HB; have HB := n0_; have BK240 := n1_; have GW240 := n2_; have GE240 := n3_; clear n0_ n1_ n2_ n3_ hb hbox hg; obtain ⟨hcz17_0, hcz17_1⟩ := cells2 BK240.out; obtain ⟨hfz17_0, hfz17_1⟩ := frz2 BK240.out) | ((with_reducible refine gate_callee (f := 37) rfl ?_); refine goesS (some 6) Tryd.func37 #[.agg #[.int .i64 a0_0, .slice A0_1 l0_1.length c0_1]] ?_; (with_reducible refine (impl_IsAlphabet.calls k a0_0 _ _ l0_1 true _ ?side1 ?side2 A3.out (tabW HTab.out)).mono ?_); (case side1 => exact cP (Kd.C_below HR0_1.out HB.out)); (case side2 => exact HC0_1.out); rintro e w18 ⟨rfl, hb⟩; refine ⟨_, rfl, ?_⟩; have n0_ := Aside0.mk (blkB BK240.out hb); have n1_ := Aside0.mk (below_step (bW) hb); clear BK240 HB; have BK240 := n0_; have HB := n1_; clear n0_ n1_; (try clear hb); (try clear hb2); (try clear hk); (try clear hi)))
   go_ret
   exact ⟨eW, bW⟩
 ·replace c4 := Bool.eq_false_iff.mpr c4
  subst c4
  have H1 : (some false) = some r := by rw [if_neg (show ¬ (false = true) by decide)] at H; exact H
  clear H
  have H := H1
  clear H1
  obtain rfl := Option.some.inj H
  go_enter Tryd.func28, Tryd.ntmps28
  go_wp2_with (first | ((with_reducible refine gate_dst (N := 2) rfl ?_); (try (refine gate_guard (by rfl) ?_; dsimp only)); refine boxS (N := 2) (cs := #[.int .i64 a0_0, .slice A0_1 l0_1.length c0_1]) (t := 30) ?_; intro gb240 hg w19 hbox hb; have n0_ := Aside0.mk (below_step (bW) hb); have n1_ := Aside0.mk (hbox); have n2_ := geW (w := w) hg; have n3_ := geW (w := w) hg; clear HB; have HB := n0_; have BK240 := n1_; have GW240 := n2_; have GE240 := n3_; clear n0_ n1_ n2_ n3_ hb hbox hg; obtain ⟨hcz20_0, hcz20_1⟩ := cells2 BK240.out; obtain ⟨hfz20_0, hfz20_1⟩ := frz2 BK240.out) | ((with_reducible refine gate_callee (f := 37) rfl ?_); refine goesS (some 6) Tryd.func37 #[.agg #[.int .i64 a0_0, .slice A0_1 l0_1.length c0_1]] ?_; (with_reducible refine (impl_IsAlphabet.calls k a0_0 _ _ l0_1 false _ ?side1 ?side2 A3.out (tabW HTab.out)).mono ?_); (case side1 => exact cP (Kd.C_below HR0_1.out HB.out)); (case side2 => exact HC0_1.out); rintro e w21 ⟨rfl, hb⟩; refine ⟨_, rfl, ?_⟩; have n0_ := Aside0.mk (blkB BK240.out hb); have n1_ := Aside0.mk (below_step (bW) hb); clear BK240 HB; have BK240 := n0_; have HB := n1_; clear n0_ n1_; (try clear hb); (try clear hb2); (try clear hk); (try clear hi)))
  go_ret
  exact ⟨eW, bW⟩
end Go.Proofs.YtcbcfkmeemenkaaDoor.P
end M0
section M1
namespace Go.Proofs.YtcbcfkmeemenkaaDoor.P
open Go.RowKit Go.Proofs.YtcbcfkmeemenkaaDoor.Sh Go.Proofs.YtcbcfkmeemenkaaDoorW.PrintWords Go.Proofs.YtcbcfkmeemenkaaDoorW.PrintLast Go.Proofs.YtcbcfkmeemenkaaDoorW.PrintMore
attribute [local go_sem] max2_int min2_int max_two min_two max_three min_three max_four min_four   -- for this text's walks alone
set_option linter.unusedVariables false
set_option linter.unusedSimpArgs false
/-! ### impl_parts: function 40 -/
mutual
def impl_parts.l0 : Nat → List (S50) → List (List (S50)) → Int → Int → Int → Option ((List (List (S50))))
 | 0, _, _, _, _, _ => none
 | k + 1, x0, x3, x4, x12, x13 => if x13 < x12 then (impl_parts.l1 k x0 x3 x4 1 x4 x12 x13) else (some x3)
def impl_parts.l1 : Nat → List (S50) → List (List (S50)) → Int → Int → Int → Int → Int → Option ((List (List (S50))))
 | 0, _, _, _, _, _, _, _ => none
 | k + 1, x0, x3, x4, x5, x6, x12, x13 => if x5 > 0 then (if 0 ≤ x6 then (if x6 < (x0.length : Int) then ((impl_partsIn.f ((rd_T50 x0 x6).f0)).bind fun t249 => (impl_parts.l1 k x0 x3 x4 (wrap64 (x5 + (wrap64 (t249 - 1)))) (wrap64 (x6 + 1)) x12 x13)) else (none)) else (none)) else (if 0 ≤ x4 then (if x4 ≤ x6 then (if x6 ≤ (x0.length : Int) then (if x3.length < 5864062014805 then (impl_parts.l0 k x0 (x3 ++ [((x0.take (x6 : Int).toNat).drop (x4 : Int).toNat)]) x6 x12 (wrap64 (x13 + 1))) else (none)) else (none)) else (none)) else (none))
end
def impl_parts.f (k : Nat) (l0 : List (S50)) : Option ((List (List (S50)))) := if 0 < (l0.length : Int) then ((impl_partsIn.f ((rd_T50 l0 0).f0)).bind fun t247 => (impl_parts.l0 k l0 (([] : List (List (S50)))) 1 t247 0)) else (none)
set_option maxHeartbeats 8000000 in
set_option maxRecDepth 100000 in
theorem impl_parts.calls (k : Nat) (P0_ : Nat → Prop) (A0 : Option Addr) (c0 : Nat) (l0 : List (S50)) (r : List (List (S50))) (w : World) (hs0 : Kd.V k50 50 w w.heap.size (fun k_ => P0_ k_) (.slice A0 l0.length c0) l0) (h : impl_parts.f k l0 = some r) :
  Calls Tryd.prog 40 #[.slice A0 l0.length c0] w fun e w' => ∃ v0_ : Value, e = .returned (v0_) ∧ Kd.N (Kd.slice 50 k50) 32 w' w.heap.size (fun k_ => (P0_ k_ ∨ w.heap.size ≤ k_)) v0_ r ∧ Below w.heap.size w w' := by
 have HO0 := Aside0.mk (show Kd.V k50 50 w w.heap.size (fun k_ => (P0_ k_ ∨ w.heap.size ≤ k_)) (.slice A0 l0.length c0) l0 from Kd.V_mono hs0 (fun k_ hk => .inl hk))
 have HB := Aside0.mk (Below.refl w.heap.size w)
 have H : (if 0 < (l0.length : Int) then ((impl_partsIn.f ((rd_T50 l0 0).f0)).bind fun t247 => (impl_parts.l0 k l0 (([] : List (List (S50)))) 1 t247 0)) else (none)) = some r := h
 clear h
 obtain ⟨y243, hy243⟩ : ∃ y_ : List (List (S50)), y_ = (([] : List (List (S50)))) := ⟨_, rfl⟩
 replace H : (if 0 < (l0.length : Int) then ((impl_partsIn.f ((rd_T50 l0 0).f0)).bind fun t247 => (impl_parts.l0 k l0 y243 1 t247 0)) else (none)) = some r := by first | (rw [hy243]; with_reducible exact H) | (have H2_ := (Option.bind_some _ _).symm.trans H; rw [hy243]; with_reducible exact H2_) | (have H2_ := (Option.bind_some _ _).symm.trans H; with_reducible exact H2_) | with_reducible exact H | (rw [hy243]; exact H) | exact H
 have Ny243 := Aside0.mk hy243
 clear hy243
 by_cases c2 : 0 < (l0.length : Int)
 ·rw [if_pos c2] at H
  have c2b0 : decide (0 < (l0.length : Int)) = true := decide_eq_true c2
  have c2b1 : decide (0 < l0.length) = true := decide_eq_true (by omega)
  clear c2
  replace H := Option.bind_eq_some_iff.mp H
  obtain ⟨t247, A30, H⟩ := H
  replace H : (impl_parts.l0 k l0 y243 1 t247 0) = some r := H
  have A3 := Aside0.mk A30
  clear A30
  have H' := Aside0.mk H
  clear H
  go_enter Tryd.func40, Tryd.ntmps40
  go_wp2_with (first | ((with_reducible refine gate_dst (N := 7) rfl ?_); refine Kd.N_lit (Kd.slice 50 k50) _ 32 ?hg (N' := 7) ?hd (xs := ([] : List (List (S50)))) (inner := []) (ok := (fun k_ => (P0_ k_ ∨ w.heap.size ≤ k_))) (okp := (fun k_ => (P0_ k_ ∨ w.heap.size ≤ k_))) ?hr ?hp (fun _ hk => hk) ((show ∀ k_, w.heap.size ≤ k_ → (fun k_ => (P0_ k_ ∨ w.heap.size ≤ k_)) k_ from fun k_ hk => (.inr (Nat.le_trans (below_size (bW)) hk))) _ (Nat.le_refl _)) (Below.refl _ _) (Nat.le_refl _) (by simp) ?_; (case hd => rfl); (case hg => rfl); (case hr => first | (go_simp; done) | (go_simp; rfl)); (case hp => exact (Reps.none _ _)); intro v244 w4 ho5 hb hg_ hnew_; clear hg_ hnew_; (first | rw [← Ny243.out] at ho5 | (simp only [Int.reduceToNat] at ho5; rw [← Ny243.out] at ho5)); have n0_ := Aside0.mk (Kd.V_elder' (by (with_reducible repeat (first | apply Kd.V_alloc | apply Kd.V_drewN | apply Kd.V_drew)); exact HO0.out) (Kd.N_base ho5) hb); have n1_ := Aside0.mk (Kd.N_lower ho5 (below_size (bW))); have n2_ := Aside0.mk (below_step (bW) hb); clear HO0 HB; have HO0 := n0_; have HO245 := n1_; have HB := n2_; clear n0_ n1_ n2_ hb ho5; have p246 : 0 ≤ (0 : Int) := (by omega); have q246 : 0 < (l0.length : Int) := ofD; obtain ⟨ad246, e246, hx246_0, hx246_1⟩ := at_T50 (Kd.V_reads' HO0.out).2.2 0 p246 q246; cases e246; have qi246 : (0 < l0.length) = True := eq_true (by omega); (try rw [show ((0 : Int)).toNat = 0 from rfl] at hx246_0); (try rw [show 0 * 2 = 0 from rfl] at hx246_0); (try rw [Addr.add_zero'] at hx246_0); (try rw [show ((0 : Int)).toNat = 0 from rfl] at hx246_1); (try rw [show 0 * 2 = 0 from rfl] at hx246_1); (try rw [Addr.add_zero'] at hx246_1); replace p246 := eq_true p246; replace q246 := eq_true q246) | ((with_reducible refine gate_callee (f := 56) rfl ?_); refine goesS (some 12) Tryd.func56 #[.int .i64 ((rd_T50 l0 0).f0)] ?_; (with_reducible refine (impl_partsIn.calls ((rd_T50 l0 0).f0) t247 _ A3.out).mono ?_); rintro e w' ⟨rfl, ⟨nd, rfl⟩⟩; refine ⟨_, rfl, ?_⟩))
  go_loopg [3, 4, 13] k (fun kq v3 v4 v13 w' => ∃ (x3_1 : List (List (S50))) (x4_1 : Int) (x13_1 : Int), v4 = .int .i64 x4_1 ∧ v13 = .int .i64 x13_1 ∧ Aside0 (impl_parts.l0 kq l0 x3_1 x4_1 t247 x13_1 = some r) ∧ Aside0 (kq ≤ k) ∧ Aside0 (Kd.V k50 50 w' w.heap.size (fun k_ => (P0_ k_ ∨ w.heap.size ≤ k_) ∧ some k_ ≠ (v3 : Value).ownBlock) (.slice (some ad246) l0.length c0) l0) ∧ Aside0 (Kd.N (Kd.slice 50 k50) 32 w' w.heap.size (fun k_ => (P0_ k_ ∨ w.heap.size ≤ k_)) v3 x3_1) ∧ Aside0 (Below w.heap.size w w'))
  case atStart => exact ⟨(y243), (1), (0), (eW), (eW), H', ⟨Nat.le_refl _⟩, ⟨by (with_reducible repeat (first | apply Kd.V_alloc | apply Kd.V_drewN | apply Kd.V_drew)); exact HO0.out⟩, ⟨by (with_reducible repeat (first | apply Kd.N_alloc | apply Kd.N_drewN | apply Kd.N_drew)); exact HO245.out⟩, ⟨bW⟩⟩
  case round =>
   clear H'
   try clear c2
   try clear c2b0
   try clear c2b1
   try clear p2
   try clear q2
   try clear hx2
   try clear qi2
   try clear c4
   try clear c5
   try clear hx246_0
   try clear hx246_1
   try clear p246
   try clear q246
   obtain ⟨x3_1, x4_1, x13_1, rfl, rfl, HA, HK1, HO_0, HO_3, HB⟩ := hrel
   cases gk with
   | zero => exact absurd HA.out (by simp [impl_parts.l0])
   | succ k1 =>
    have H := HA.out
    clear HA
    simp only [impl_parts.l0] at H
    by_cases c6 : x13_1 < t247
    ·rw [if_pos c6] at H
     have c6b0 : decide (x13_1 < t247) = true := decide_eq_true c6
     clear c6
     have H' := Aside0.mk H
     clear H
     go_wp2
     go_loopg [5, 6] k1 (fun kq v5 v6 w' => ∃ (x5_2 : Int) (x6_2 : Int), v5 = .int .i64 x5_2 ∧ v6 = .int .i64 x6_2 ∧ Aside0 (impl_parts.l1 kq l0 x3_1 x4_1 x5_2 x6_2 t247 x13_1 = some r) ∧ Aside0 (kq ≤ k1) ∧ Aside0 (Kd.V k50 50 w' w.heap.size (fun k_ => (P0_ k_ ∨ w.heap.size ≤ k_) ∧ some k_ ≠ (u3 : Value).ownBlock) (.slice (some ad246) l0.length c0) l0) ∧ Aside0 (Kd.N (Kd.slice 50 k50) 32 w' w.heap.size (fun k_ => (P0_ k_ ∨ w.heap.size ≤ k_)) u3 x3_1) ∧ Aside0 (Below w.heap.size w w'))
     case atStart => exact ⟨(1), (x4_1), (eW), (eW), H', ⟨Nat.le_refl _⟩, ⟨by (with_reducible repeat (first | apply Kd.V_alloc | apply Kd.V_drewN | apply Kd.V_drew)); exact HO_0.out⟩, ⟨by (with_reducible repeat (first | apply Kd.N_alloc | apply Kd.N_drewN | apply Kd.N_drew)); exact HO_3.out⟩, ⟨bW⟩⟩
     case round =>
      clear H'
      try clear c2
      try clear c2b0
      try clear c2b1
      try clear p2
      try clear q2
      try clear hx2
      try clear qi2
      try clear c4
      try clear c5
      try clear c6
      try clear c6b0
      try clear hx246_0
      try clear hx246_1
      try clear p2
      try clear p246
      try clear q2
      try clear q246
      obtain ⟨x5_2, x6_2, rfl, rfl, HA, HK2, HO_0, HO_3, HB⟩ := hrel
      cases gk with
      | zero => exact absurd HA.out (by simp [impl_parts.l1])
      | succ k2 =>
       have H := HA.out
       clear HA
       simp only [impl_parts.l1] at H
       by_cases c7 : x5_2 > 0
       ·rw [if_pos c7] at H
        have c7b0 : decide (0 < x5_2) = true := decide_eq_true c7
        clear c7
        by_cases c8 : 0 ≤ x6_2
        ·rw [if_pos c8] at H
         have c8b0 : decide (0 ≤ x6_2) = true := decide_eq_true c8
         clear c8
         by_cases c9 : x6_2 < (l0.length : Int)
         ·rw [if_pos c9] at H
          have c9b0 : decide (x6_2 < (l0.length : Int)) = true := decide_eq_true c9
          clear c9
          replace H := Option.bind_eq_some_iff.mp H
          obtain ⟨t249, A100, H⟩ := H
          replace H : (impl_parts.l1 k2 l0 x3_1 x4_1 (wrap64 (x5_2 + (wrap64 (t249 - 1)))) (wrap64 (x6_2 + 1)) t247 x13_1) = some r := H
          have A10 := Aside0.mk A100
          clear A100
          have H' := Aside0.mk H
          clear H
          have p248 : 0 ≤ (x6_2 : Int) := ofD
          have q248 : x6_2 < (l0.length : Int) := ofD
          obtain ⟨ad248, e248, hx248_0, hx248_1⟩ := at_T50 (Kd.V_reads' HO_0.out).2.2 x6_2 p248 q248
          obtain rfl : ad246 = ad248 := (by injection e248)
          replace p248 := eq_true p248
          replace q248 := eq_true q248
          go_wp2_with (first | ((with_reducible refine gate_callee (f := 56) rfl ?_); refine goesS (some 26) Tryd.func56 #[.int .i64 ((rd_T50 l0 x6_2).f0)] ?_; (with_reducible refine (impl_partsIn.calls ((rd_T50 l0 x6_2).f0) t249 _ A10.out).mono ?_); rintro e w' ⟨rfl, ⟨nd, rfl⟩⟩; refine ⟨_, rfl, ?_⟩))
          go_roundg k2
          case measure => have := HK1.out; have := HK2.out; omega
          case rel => exact ⟨(wrap64 (x5_2 + (wrap64 (t249 - 1)))), (wrap64 (x6_2 + 1)), (eW), (eW), H', ⟨by have := HK1.out; have := HK2.out; omega⟩, ⟨by (with_reducible repeat (first | apply Kd.V_alloc | apply Kd.V_drewN | apply Kd.V_drew)); exact HO_0.out⟩, ⟨by (with_reducible repeat (first | apply Kd.N_alloc | apply Kd.N_drewN | apply Kd.N_drew)); exact HO_3.out⟩, ⟨bW⟩⟩
         ·rw [if_neg c9] at H
          exact absurd H (by simp)
        ·rw [if_neg c8] at H
         exact absurd H (by simp)
       ·rw [if_neg c7] at H
        have c7b0 : decide (0 < x5_2) = false := decide_eq_false c7
        clear c7
        by_cases c11 : 0 ≤ x4_1
        ·rw [if_pos c11] at H
         have c11b0 := eq_true c11
         have c11b1 : decide (0 ≤ x4_1) = true := decide_eq_true c11
         clear c11
         by_cases c12 : x4_1 ≤ x6_2
         ·rw [if_pos c12] at H
          have c12b0 := eq_true c12
          have c12b1 : decide (x4_1 ≤ x6_2) = true := decide_eq_true c12
          clear c12
          by_cases c13 : x6_2 ≤ (l0.length : Int)
          ·rw [if_pos c13] at H
           have c13b0 := eq_true c13
           have c13b1 : decide (x6_2 ≤ (l0.length : Int)) = true := decide_eq_true c13
           clear c13
           obtain ⟨y250, hy250⟩ : ∃ y_ : List (S50), y_ = ((l0.take (x6_2 : Int).toNat).drop (x4_1 : Int).toNat) := ⟨_, rfl⟩
           replace H : (if x3_1.length < 5864062014805 then (impl_parts.l0 k2 l0 (x3_1 ++ [y250]) x6_2 t247 (wrap64 (x13_1 + 1))) else (none)) = some r := by first | (rw [hy250]; with_reducible exact H) | (have H2_ := (Option.bind_some _ _).symm.trans H; rw [hy250]; with_reducible exact H2_) | (have H2_ := (Option.bind_some _ _).symm.trans H; with_reducible exact H2_) | with_reducible exact H | (rw [hy250]; exact H) | exact H
           have Ny250 := Aside0.mk hy250
           clear hy250
           by_cases c14 : x3_1.length < 5864062014805
           ·rw [if_pos c14] at H
            have LMc14 := Aside0.mk c14
            clear c14
            obtain ⟨y255, hy255⟩ : ∃ y_ : List (List (S50)), y_ = (x3_1 ++ [y250]) := ⟨_, rfl⟩
            replace H : (impl_parts.l0 k2 l0 y255 x6_2 t247 (wrap64 (x13_1 + 1))) = some r := by first | (rw [hy255]; with_reducible exact H) | (have H2_ := (Option.bind_some _ _).symm.trans H; rw [hy255]; with_reducible exact H2_) | (have H2_ := (Option.bind_some _ _).symm.trans H; with_reducible exact H2_) | with_reducible exact H | (rw [hy255]; exact H) | exact H
            have Ny255 := Aside0.mk hy255
            clear hy255
            have H' := Aside0.mk H
            clear H
            have q15 : (x6_2 : Int) ≤ ((l0.length : Int) : Int) := ofD
            obtain ⟨i015, hi015, _, hsz15, _⟩ := info_parts info50
            have hroom15 : l0.length ≤ c0 := (Kd.V_reads' HO_0.out).2.1
            have hC15 : Kd.F k50 _ _ (some ad246) l0.length l0 := (Kd.V_at (base := w.heap.size) HO_0.out).2.2
            have ql15 : (x4_1 : Int) ≤ (x6_2 : Int) := ofD
            have q015 : (0 : Int) ≤ (x4_1 : Int) := ofD
            have hcut15 := cut_mid (P := Tryd.prog) 32 50 .i64 .i64 Tryd.underlying32 hi015 2 hsz15 (some ad246) l0.length c0 x4_1 x6_2 q015 ql15 q15 hroom15
            have hr15 := Kd.F_mid (lo := (x4_1 : Int).toNat) (hi := (x6_2 : Int).toNat) (c := c0) hC15 (by omega) (by omega) hroom15
            obtain ⟨A15, hA15⟩ : ∃ Ab_, Ab_ = (if c0 = (x4_1 : Int).toNat then (some ad246) else ((some ad246) : Option Addr).map (·.add ((x4_1 : Int).toNat * 2))) := ⟨_, rfl⟩
            obtain ⟨c15, hc15⟩ : ∃ cb_, cb_ = c0 - (x4_1 : Int).toNat := ⟨_, rfl⟩
            have hy15 : y250.length = (x6_2 : Int).toNat - (x4_1 : Int).toNat := (by rw [Ny250.out, List.length_drop, List.length_take] <;> omega)
            rw [show ((l0).take (x6_2 : Int).toNat).drop (x4_1 : Int).toNat = y250 from Ny250.out.symm] at hr15
            replace hr15 : Kd.F k50 _ _ A15 y250.length y250 := (by rw [hA15]; exact hr15)
            rw [← hy15, ← hA15, ← hc15] at hcut15
            have HO254 := Aside0.mk (show Kd.V k50 50 _ w.heap.size _ (.slice A15 y250.length c15) y250 from Kd.V_mk (by rw [hy15, hc15]; exact Nat.sub_le_sub_right (Nat.le_trans (by omega) hroom15) _) hr15)
            have HC254 := Aside0.mk (show y250.length ≤ c15 from by rw [hy15, hc15]; exact Nat.sub_le_sub_right (Nat.le_trans (by omega) hroom15) _)
            clear hr15 hC15 hroom15 hi015 hsz15 hc15
            have KY15 := Aside0.mk hy15
            have KA15 := Aside0.mk hA15
            clear hy15 hA15
            replace q15 := eq_true q15
            go_wp2_with (first | ((with_reducible refine gate_builtin (b := .append) (xs := #[.tmp 29, .tmp 34]) rfl ?_); at_builtin; refine Kd.N_append (Kd.slice 50 k50) (w0 := w) w.heap.size rfl (.tmp 29) (.tmp 34) 61 32 (.slice none 0 0) 24 rfl Tryd.underlying61 info32 rfl (by decide) (by omega) u3 x3_1 y250 [.slice A15 y250.length c15] (fun k_ => (P0_ k_ ∨ w.heap.size ≤ k_)) (fun k_ => ((fun k_ => (P0_ k_ ∨ w.heap.size ≤ k_))) k_ ∧ some k_ ≠ (u3 : Value).ownBlock) rfl rfl ?aP (fun _ hk => hk) ?aF ?aO ?aB ?aS ?aL ?_; (case aP => exact (Kd.FK_slice_mk (Kd.V_reads' (Kd.V_mono (ok' := (fun k_ => ((fun k_ => (P0_ k_ ∨ w.heap.size ≤ k_))) k_ ∧ some k_ ≠ (u3 : Value).ownBlock)) (HO254.out) (fun k_ hk => ⟨hk.1, hk.2⟩))).2.1 (Kd.V_F (Kd.V_mono (ok' := (fun k_ => ((fun k_ => (P0_ k_ ∨ w.heap.size ≤ k_))) k_ ∧ some k_ ≠ (u3 : Value).ownBlock)) (HO254.out) (fun k_ hk => ⟨hk.1, hk.2⟩))))); (case aB => exact (bW)); (case aF => exact (fun k_ hk => (.inr (Nat.le_trans (below_size (bW)) hk)))); (case aO => exact (by (with_reducible repeat (first | apply Kd.N_alloc | apply Kd.N_drewN | apply Kd.N_drew)); exact HO_3.out)); (case aS => exact (below_size (bW))); (case aL => have := LMc14.out; omega); intro v256 w16 ho hb hg hat; rw [← Ny255.out] at ho; have n0_ := Aside0.mk (Kd.V_afterv (ok := (fun k_ => (P0_ k_ ∨ w.heap.size ≤ k_))) (by (with_reducible repeat (first | apply Kd.V_alloc | apply Kd.V_drewN | apply Kd.V_drew)); exact HO_0.out) hg hat); have n1_ := Aside0.mk (Kd.V_afterv (ok := (fun k_ => (P0_ k_ ∨ w.heap.size ≤ k_))) (by (with_reducible repeat (first | apply Kd.V_alloc | apply Kd.V_drewN | apply Kd.V_drew)); exact HO254.out) hg hat); have n2_ := Aside0.mk (hb); have n3_ := Aside0.mk (ho); clear HO_0 HO254 HB HO_3; have HO_0 := n0_; have HO254 := n1_; have HB := n2_; have HO257 := n3_; clear n0_ n1_ n2_ n3_ ho hb hg hat))
            go_roundg k2
            case measure => have := HK1.out; have := HK2.out; omega
            case rel => exact ⟨(y255), (x6_2), (wrap64 (x13_1 + 1)), (eW), (eW), H', ⟨by have := HK1.out; have := HK2.out; omega⟩, ⟨by (with_reducible repeat (first | apply Kd.V_alloc | apply Kd.V_drewN | apply Kd.V_drew)); exact HO_0.out⟩, ⟨by (with_reducible repeat (first | apply Kd.N_alloc | apply Kd.N_drewN | apply Kd.N_drew)); exact HO257.out⟩, ⟨bW⟩⟩
           ·rw [if_neg c14] at H
            exact absurd H (by simp)
          ·rw [if_neg c13] at H
           exact absurd H (by simp)
         ·rw [if_neg c12] at H
          exact absurd H (by simp)
        ·rw [if_neg c11] at H
         exact absurd H (by simp)
    ·rw [if_neg c6] at H
     have c6b0 : decide (x13_1 < t247) = false := decide_eq_false c6
     clear c6
     obtain rfl := Option.some.inj H
     go_wp2
     go_ret
     exact ⟨_, eW, by (with_reducible repeat (first | apply Kd.N_alloc | apply Kd.N_drewN | apply Kd.N_drew)); exact HO_3.out, bW⟩
 ·rw [if_neg c2] at H
  exact absurd H (by simp)
/-! ### slices_Grow_int64_int64: function 57 -/
def slices_Grow_int64_int64.f (l0 : List Int) (a1 : Int) : Option (List Int) := if l0.length = 0 ∧ 0 ≤ a1 ∧ a1 < 17592186044415 then some [] else none
set_option maxHeartbeats 8000000 in
set_option maxRecDepth 100000 in
theorem slices_Grow_int64_int64.calls (A0 : Option Addr) (c0 : Nat) (l0 : List Int) (a1 : Int) (r : List Int) (w : World) (hr0 : A0 = none ∧ c0 = 0) (hc0 : l0.length ≤ c0) (h : slices_Grow_int64_int64.f l0 a1 = some r) :
    Calls Tryd.prog 57 #[.slice A0 l0.length c0, .int .i64 a1] w fun e w' => ∃ v0_ : Value, e = .returned (v0_) ∧ Kd.R (Kd.int .i64) 2 w' w.heap.size (fun _ => True) v0_ r ∧ Below w.heap.size w w' := by
  obtain ⟨rfl, rfl⟩ := hr0
  unfold slices_Grow_int64_int64.f at h
  by_cases hc : l0.length = 0 ∧ 0 ≤ a1 ∧ a1 < 17592186044415
  · rw [if_pos hc] at h
    obtain rfl := Option.some.inj h
    clear h hc0
    obtain ⟨hl, h0, h1⟩ := hc
    rw [hl]
    clear hl l0
    obtain ⟨i0, hi0, _, hsz, _⟩ := info_parts info2
    have hcut0 := cut_to (P := Tryd.prog) 22 2 .i64 Tryd.underlying22 hi0 none 0 0 0 (by omega) (by omega) (by omega)
    have HB := Aside0.mk (Below.refl w.heap.size w)
    by_cases hz : a1 = 0
    · subst hz
      clear h0 h1
      go_enter Tryd.func57, Tryd.ntmps57
      go_wp2
      go_ret
      exact ⟨_, rfl, Kd.R_nil _ _ _ _ _, Below.refl _ _⟩
    · have hp : 0 < a1 := by omega
      have HP := Aside0.mk h0
      have HL := Aside0.mk h1
      have hn0 : IntKind.i64.wrap (a1 - 0) = a1 := by rw [Int.sub_zero]; exact IntWalk.i64_in _ (by omega)
      have hnl : ¬ a1 < 0 := by omega
      clear hz h0
      go_enter Tryd.func57, Tryd.ntmps57
      go_wp2_with ((with_reducible refine gate_builtin (b := .append) (xs := #[.tmp 20, .tmp 21]) rfl ?_); refine Kd.R_append_zeros (Kd.int .i64) (w0 := w) w.heap.size rfl (.tmp 20) (.tmp 21) 22 3 2 (.int .i64 0) 8 rfl Tryd.underlying22 Tryd.underlying3 info2 rfl (by decide) (by omega) (.slice none 0 0) [] 0 a1 (fun _ => True) rfl rfl rfl (fun _ _ => trivial) (Kd.R_nil _ _ _ _ _) HP.out HB.out (Nat.le_refl _) (by have := HL.out; have := HP.out; simp only [List.length_nil]; omega) ?_; intro v1 w1 ho hb hg hat; clear hg hat; obtain ⟨A1, c1, e1⟩ := Kd.R_slice ho; subst e1; have hcap := (Kd.R_reads' ho).2.1; rw [List.nil_append, List.length_replicate] at hcap ho ⊢; have hcut1 := cut_to (P := Tryd.prog) 22 2 .i64 Tryd.underlying22 hi0 A1 a1.toNat c1 0 (by omega) (by have := HP.out; omega) hcap; have HR := Aside0.mk (Kd.R_take (m := 0) ho (by omega)); have HB1 := Aside0.mk hb; clear ho hb hcap)
      go_ret
      exact ⟨_, rfl, HR.out, HB1.out⟩
  · rw [if_neg hc] at h
    cases h
/-! ### slices_Concat_int64_int64: function 41 -/
mutual
def slices_Concat_int64_int64.l0 : Nat → List (List Int) → Int → List (List Int) → Int → Int → Option (List Int)
 | 0, _, _, _, _, _ => none
 | k + 1, x0, x3, x9, x10, x11 => if x11 < x10 then (if 0 ≤ x11 then (if x11 < (x9.length : Int) then (if (wrap64 (x3 + ((rd_L4 x9 x11).length : Int))) < 0 then (none) else (slices_Concat_int64_int64.l0 k x0 (wrap64 (x3 + ((rd_L4 x9 x11).length : Int))) x9 x10 (wrap64 (x11 + 1)))) else (none)) else (none)) else ((slices_Grow_int64_int64.f ([] : List Int) x3).bind fun t259 => (slices_Concat_int64_int64.l1 k t259 x0 (x0.length : Int) 0))
def slices_Concat_int64_int64.l1 : Nat → List Int → List (List Int) → Int → Int → Option (List Int)
 | 0, _, _, _, _ => none
 | k + 1, x6, x25, x26, x27 => if x27 < x26 then (if 0 ≤ x27 then (if x27 < (x25.length : Int) then (if x6.length + (rd_L4 x25 x27).length < 17592186044416 then (slices_Concat_int64_int64.l1 k (x6 ++ (rd_L4 x25 x27)) x25 x26 (wrap64 (x27 + 1))) else (none)) else (none)) else (none)) else (some x6)
end
def slices_Concat_int64_int64.f (k : Nat) (l0 : List (List Int)) : Option (List Int) := slices_Concat_int64_int64.l0 k l0 0 l0 (l0.length : Int) 0
set_option maxHeartbeats 8000000 in
set_option maxRecDepth 100000 in
theorem slices_Concat_int64_int64.calls (k : Nat) (A0 : Option Addr) (c0 : Nat) (l0 : List (List Int)) (r : List Int) (w : World) (hr0 : Kd.C (Kd.slice 2 (Kd.int .i64)) w A0 l0.length l0) (hc0 : l0.length ≤ c0) (h : slices_Concat_int64_int64.f k l0 = some r) :
  Calls Tryd.prog 41 #[.slice A0 l0.length c0] w fun e w' => ∃ v0_ : Value, e = .returned (v0_) ∧ Kd.R (Kd.int .i64) 2 w' w.heap.size (fun _ => True) v0_ r ∧ Below w.heap.size w w' := by
 have HR0 := Aside0.mk hr0
 have HC0 := Aside0.mk hc0
 clear hr0 hc0
 have HB := Aside0.mk (Below.refl w.heap.size w)
 have H : (slices_Concat_int64_int64.l0 k l0 0 l0 (l0.length : Int) 0) = some r := h
 clear h
 have H' := Aside0.mk H
 clear H
 go_enter Tryd.func41, Tryd.ntmps41
 go_wp2
 go_loopg [3, 11] k (fun kq v3 v11 w' => ∃ (x3_1 : Int) (x11_1 : Int), v3 = .int .i64 x3_1 ∧ v11 = .int .i64 x11_1 ∧ Aside0 (slices_Concat_int64_int64.l0 kq l0 x3_1 l0 (l0.length : Int) x11_1 = some r) ∧ Aside0 (kq ≤ k) ∧ Aside0 (Below w.heap.size w w'))
 case atStart => exact ⟨(0), (0), (eW), (eW), H', ⟨Nat.le_refl _⟩, ⟨bW⟩⟩
 case round =>
  clear H'
  obtain ⟨x3_1, x11_1, rfl, rfl, HA, HK1, HB⟩ := hrel
  cases gk with
  | zero => exact absurd HA.out (by simp [slices_Concat_int64_int64.l0])
  | succ k1 =>
   have H := HA.out
   clear HA
   simp only [slices_Concat_int64_int64.l0] at H
   by_cases c2 : x11_1 < (l0.length : Int)
   ·rw [if_pos c2] at H
    have c2b0 : decide (x11_1 < (l0.length : Int)) = true := decide_eq_true c2
    clear c2
    by_cases c3 : 0 ≤ x11_1
    ·rw [if_pos c3] at H
     have c3b0 : decide (0 ≤ x11_1) = true := decide_eq_true c3
     clear c3
     by_cases c4 : x11_1 < (l0.length : Int)
     ·rw [if_pos c4] at H
      have c4b0 : decide (x11_1 < (l0.length : Int)) = true := decide_eq_true c4
      clear c4
      by_cases c5 : (wrap64 (x3_1 + ((rd_L4 l0 x11_1).length : Int))) < 0
      ·rw [if_pos c5] at H
       exact absurd H (by simp)
      ·rw [if_neg c5] at H
       have c5b0 : decide ((wrap64 (x3_1 + ((rd_L4 l0 x11_1).length : Int))) < 0) = false := decide_eq_false c5
       clear c5
       have H' := Aside0.mk H
       clear H
       have p258 : 0 ≤ (x11_1 : Int) := ofD
       have q258 : x11_1 < (l0.length : Int) := ofD
       obtain ⟨ad258, A258_0, c258_0, e258, hx258_0, hl258_0, hi258_0⟩ := at_L4 HR0.out x11_1 p258 q258
       cases e258
       replace hx258_0 := (HB.out.cell (World.block_lt_of_cell? w _ hx258_0)).trans hx258_0
       have HR258_0 := Aside0.mk hi258_0
       have HC258_0 := Aside0.mk hl258_0
       clear hi258_0 hl258_0
       replace p258 := eq_true p258
       replace q258 := eq_true q258
       go_wp2
       go_roundg k1
       case measure => have := HK1.out; omega
       case rel => exact ⟨(wrap64 (x3_1 + ((rd_L4 l0 x11_1).length : Int))), (wrap64 (x11_1 + 1)), (eW), (eW), H', ⟨by have := HK1.out; omega⟩, ⟨bW⟩⟩
     ·rw [if_neg c4] at H
      exact absurd H (by simp)
    ·rw [if_neg c3] at H
     exact absurd H (by simp)
   ·rw [if_neg c2] at H
    have c2b0 : decide (x11_1 < (l0.length : Int)) = false := decide_eq_false c2
    clear c2
    replace H := Option.bind_eq_some_iff.mp H
    obtain ⟨t259, A60, H⟩ := H
    replace H : (slices_Concat_int64_int64.l1 k1 t259 l0 (l0.length : Int) 0) = some r := H
    have A6 := Aside0.mk A60
    clear A60
    have H' := Aside0.mk H
    clear H
    go_wp2_with (first | ((with_reducible refine gate_callee (f := 57) rfl ?_); refine goesS (some 24) Tryd.func57 #[.slice none 0 0, .int .i64 x3_1] ?_; (refine (slices_Grow_int64_int64.calls _ _ ([] : List Int) x3_1 t259 _ ?side1 ?side2 A6.out).mono ?_); (case side1 => exact ⟨rfl, rfl⟩); (case side2 => exact Nat.le_refl _); rintro e w7 ⟨v260, rfl, ho0, hb⟩; refine ⟨_, rfl, ?_⟩; have n0_ := Aside0.mk (Kd.R_lower ho0 (below_size (bW))); have n1_ := Aside0.mk (below_step (bW) hb); clear HB; have HO261 := n0_; have HB := n1_; clear n0_ n1_; (try clear hb); (try clear hb2); (try clear hk); (try clear hi); (try clear ho0)))
    go_loopg [6, 27] k1 (fun kq v6 v27 w' => ∃ (x6_2 : List Int) (x27_2 : Int), v27 = .int .i64 x27_2 ∧ Aside0 (slices_Concat_int64_int64.l1 kq x6_2 l0 (l0.length : Int) x27_2 = some r) ∧ Aside0 (kq ≤ k1) ∧ Aside0 (Kd.R (Kd.int .i64) 2 w' w.heap.size (fun _ => True) v6 x6_2) ∧ Aside0 (Below w.heap.size w w'))
    case atStart => exact ⟨(t259), (0), (eW), H', ⟨Nat.le_refl _⟩, ⟨(rP HO261.out)⟩, ⟨bW⟩⟩
    case round =>
     clear H'
     try clear c2
     try clear c2b0
     try clear p2
     try clear q2
     try clear hx2
     try clear c3
     try clear c3b0
     try clear c4
     try clear c4b0
     try clear c5
     try clear c5b0
     try clear p6
     try clear hx258_0
     try clear p258
     try clear q258
     obtain ⟨x6_2, x27_2, rfl, HA, HK2, HO_6, HB⟩ := hrel
     cases gk with
     | zero => exact absurd HA.out (by simp [slices_Concat_int64_int64.l1])
     | succ k2 =>
      have H := HA.out
      clear HA
      simp only [slices_Concat_int64_int64.l1] at H
      by_cases c8 : x27_2 < (l0.length : Int)
      ·rw [if_pos c8] at H
       have c8b0 : decide (x27_2 < (l0.length : Int)) = true := decide_eq_true c8
       clear c8
       by_cases c9 : 0 ≤ x27_2
       ·rw [if_pos c9] at H
        have c9b0 : decide (0 ≤ x27_2) = true := decide_eq_true c9
        clear c9
        by_cases c10 : x27_2 < (l0.length : Int)
        ·rw [if_pos c10] at H
         have c10b0 : decide (x27_2 < (l0.length : Int)) = true := decide_eq_true c10
         clear c10
         by_cases c11 : x6_2.length + (rd_L4 l0 x27_2).length < 17592186044416
         ·rw [if_pos c11] at H
          have LMc11 := Aside0.mk c11
          clear c11
          obtain ⟨y263, hy263⟩ : ∃ y_ : List Int, y_ = (x6_2 ++ (rd_L4 l0 x27_2)) := ⟨_, rfl⟩
          replace H : (slices_Concat_int64_int64.l1 k2 y263 l0 (l0.length : Int) (wrap64 (x27_2 + 1))) = some r := by first | (rw [hy263]; with_reducible exact H) | (have H2_ := (Option.bind_some _ _).symm.trans H; rw [hy263]; with_reducible exact H2_) | (have H2_ := (Option.bind_some _ _).symm.trans H; with_reducible exact H2_) | with_reducible exact H | (rw [hy263]; exact H) | exact H
          have Ny263 := Aside0.mk hy263
          clear hy263
          have H' := Aside0.mk H
          clear H
          have p262 : 0 ≤ (x27_2 : Int) := ofD
          have q262 : x27_2 < (l0.length : Int) := ofD
          obtain ⟨ad262, A262_0, c262_0, e262, hx262_0, hl262_0, hi262_0⟩ := at_L4 HR0.out x27_2 p262 q262
          cases e262
          replace hx262_0 := (HB.out.cell (World.block_lt_of_cell? w _ hx262_0)).trans hx262_0
          have HR262_0 := Aside0.mk hi262_0
          have HC262_0 := Aside0.mk hl262_0
          clear hi262_0 hl262_0
          replace p262 := eq_true p262
          replace q262 := eq_true q262
          go_wp2_with (first | ((with_reducible refine gate_builtin (b := .append) (xs := #[.tmp 31, .tmp 32]) rfl ?_); at_builtin; refine Kd.R_append_rows (Kd.int .i64) (w0 := w) w.heap.size rfl (.tmp 31) (.tmp 32) 22 2 (.int .i64 0) 8 rfl Tryd.underlying22 info2 rfl (by decide) (by omega) u6 x6_2 (rd_L4 l0 x27_2) _ _ _ (fun _ => True) (fun _ => False) rfl rfl ?aO ?aR (fun _ _ h => h) (fun _ h => h.elim) ?aF ?aB ?aS ?aL ?_; (case aR => exact cP (Kd.C_below HR262_0.out HB.out)); (case aB => exact (bW)); (case aF => exact (fun _ _ => trivial)); (case aO => exact (rP HO_6.out)); (case aS => exact (below_size (bW))); (case aL => have := LMc11.out; omega); intro v264 w12 ho hb hg hat; rw [← Ny263.out] at ho; have n0_ := Aside0.mk (hb); have n1_ := Aside0.mk (ho); clear HB HO_6; have HB := n0_; have HO265 := n1_; clear n0_ n1_ ho hb hg hat))
          go_roundg k2
          case measure => have := HK1.out; have := HK2.out; omega
          case rel => exact ⟨(y263), (wrap64 (x27_2 + 1)), (eW), H', ⟨by have := HK1.out; have := HK2.out; omega⟩, ⟨(rP HO265.out)⟩, ⟨bW⟩⟩
         ·rw [if_neg c11] at H
          exact absurd H (by simp)
        ·rw [if_neg c10] at H
         exact absurd H (by simp)
       ·rw [if_neg c9] at H
        exact absurd H (by simp)
      ·rw [if_neg c8] at H
       have c8b0 : decide (x27_2 < (l0.length : Int)) = false := decide_eq_false c8
       clear c8
       obtain rfl := Option.some.inj H
       go_wp2
       go_ret
       exact ⟨_, eW, (rP HO_6.out), bW⟩
/-! ### slices_Clone_int64_int64: function 42 -/
def slices_Clone_int64_int64.f (l0 : List Int) : Option (List Int) := if l0.length < 17592186044416 then some l0 else none
set_option maxHeartbeats 8000000 in
set_option maxRecDepth 100000 in
theorem slices_Clone_int64_int64.calls (A0 : Option Addr) (c0 : Nat) (l0 : List Int) (r : List Int) (w : World) (hr0 : Kd.C (Kd.int .i64) w A0 l0.length l0) (hc0 : l0.length ≤ c0) (h : slices_Clone_int64_int64.f l0 = some r) :
    Calls Tryd.prog 42 #[.slice A0 l0.length c0] w fun e w' => ∃ v0_ : Value, e = .returned (v0_) ∧ Kd.R (Kd.int .i64) 2 w' w.heap.size (fun _ => True) v0_ r ∧ Below w.heap.size w w' := by
  unfold slices_Clone_int64_int64.f at h
  by_cases c2 : l0.length < 17592186044416
  · rw [if_pos c2] at h
    have LMc2 := Aside0.mk c2
    clear c2
    obtain rfl := Option.some.inj h
    clear h
    have hq := fun (W : World) => Lib.run_eql_slice_nil (P := Tryd.prog) W 22 2 A0 l0.length c0 0 0 Tryd.underlying22
    have HR0 := Aside0.mk hr0
    have HC0 := Aside0.mk hc0
    have HB := Aside0.mk (Below.refl w.heap.size w)
    cases A0 with
    | none =>
      have hl : l0.length = 0 := by
        by_cases hn : 0 < l0.length
        · obtain ⟨_, e, _⟩ := hr0.2.2 hn
          cases e
        · omega
      have hl2 : l0 = [] := List.eq_nil_of_length_eq_zero hl
      subst hl2
      clear hl hr0 hc0
      have hq1 : ∀ W, (binOp .eql 22 (.slice none 0 c0) (.slice none 0 0)).run Tryd.prog W = .ok (.bool true) W := hq
      clear hq
      go_enter Tryd.func42, Tryd.ntmps42
      go_wp2
      go_ret
      exact ⟨_, rfl, Kd.R_nil _ _ _ _ _, Below.refl _ _⟩
    | some ad =>
      clear hr0 hc0
      have hq1 : ∀ W, (binOp .eql 22 (.slice (some ad) l0.length c0) (.slice none 0 0)).run Tryd.prog W = .ok (.bool false) W := hq
      clear hq
      go_enter Tryd.func42, Tryd.ntmps42
      go_wp2_with (first | ((with_reducible refine gate_dst (N := 5) rfl ?_); refine Kd.R_lit (Kd.int .i64) _ 2 ?hg (N := 5) ?hd (xs := ([] : List Int)) (inner := []) (ok := fun _ => True) (okp := fun _ => True) ?hr ?hp (fun _ hk => hk) trivial (Below.refl _ _) (Nat.le_refl _) (by simp) ?_; (case hd => rfl); (case hg => rfl); (case hr => first | (go_simp; done) | (go_simp; rfl)); (case hp => exact (Reps.none _ _)); intro v203 w3 ho4 hb hg_ hnew_; clear hg_ hnew_; have n0_ := Aside0.mk (Kd.R_lower ho4 (below_size (by repeat (first | (with_reducible first | exact HB.out | apply below_alloc | apply pw_below_drewN | apply below_drew1) | exact HB.out)))); have n1_ := Aside0.mk (below_step (by repeat (first | (with_reducible first | exact HB.out | apply below_alloc | apply pw_below_drewN | apply below_drew1) | exact HB.out)) hb); clear HB; have HO204 := n0_; have HB := n1_; clear n0_ n1_ hb ho4) | ((with_reducible refine gate_builtin (b := .append) (xs := #[.tmp 5, .tmp 6]) rfl ?_); at_builtin; refine Kd.R_append_rows (Kd.int .i64) (w0 := w) w.heap.size rfl (.tmp 5) (.tmp 6) 22 2 (.int .i64 0) 8 rfl Tryd.underlying22 info2 rfl (by decide) (by omega) v203 [] l0 _ _ _ (fun _ => True) (fun _ => False) rfl rfl ?aO ?aR (fun _ _ h => h) (fun _ h => h.elim) ?aF ?aB ?aS ?aL ?_; (case aR => repeat (first | exact (Kd.C_below HR0.out HB.out) | (with_reducible refine Kd.C_alloc ?_ _) | (with_reducible refine Kd.C_drewN ?_ _) | (with_reducible refine Kd.C_drew ?_))); (case aB => exact (by repeat (first | (with_reducible first | exact HB.out | apply below_alloc | apply pw_below_drewN | apply below_drew1) | exact HB.out))); (case aF => exact (fun _ _ => trivial)); (case aO => exact (by (with_reducible repeat (first | apply Kd.R_alloc | apply Kd.R_drewN | apply Kd.R_drew)); exact HO204.out)); (case aS => exact (below_size (by repeat (first | (with_reducible first | exact HB.out | apply below_alloc | apply pw_below_drewN | apply below_drew1) | exact HB.out)))); (case aL => have := LMc2.out; simp only [List.length_nil]; omega); intro v206 w5 ho hb hg hat; rw [List.nil_append] at ho; have n0_ := Aside0.mk (hb); have n1_ := Aside0.mk (ho); clear HB HO204; have HB := n0_; have HO207 := n1_; clear n0_ n1_ ho hb hg hat))
      go_ret
      exact ⟨_, rfl, by (with_reducible repeat (first | apply Kd.R_alloc | apply Kd.R_drewN | apply Kd.R_drew)); exact HO207.out, by repeat (first | (with_reducible first | exact HB.out | apply below_alloc | apply pw_below_drewN | apply below_drew1) | exact HB.out)⟩
  · rw [if_neg c2] at h
    cases h
/-! ### slices_Index_int64_int64: function 58 -/
def slices_Index_int64_int64.l0 : Nat → List Int → Int → Int → Int → Option (Int)
 | 0, _, _, _, _ => none
 | k + 1, x0, x1, x7, x8 => if x8 < x7 then (if 0 ≤ x8 then (if x8 < (x0.length : Int) then (if x1 = (rd x0 x8) then (some x8) else (slices_Index_int64_int64.l0 k x0 x1 x7 (wrap64 (x8 + 1)))) else (none)) else (none)) else (some (-1))
def slices_Index_int64_int64.f (k : Nat) (l0 : List Int) (a1 : Int) : Option (Int) := slices_Index_int64_int64.l0 k l0 a1 (l0.length : Int) 0
set_option maxHeartbeats 8000000 in
set_option maxRecDepth 100000 in
theorem slices_Index_int64_int64.calls (k : Nat) (A0 : Option Addr) (c0 : Nat) (l0 : List Int) (a1 : Int) (r : Int) (w : World) (hr0 : Kd.C (Kd.int .i64) w A0 l0.length l0) (hc0 : l0.length ≤ c0) (h : slices_Index_int64_int64.f k l0 a1 = some r) :
  Calls Tryd.prog 58 #[.slice A0 l0.length c0, .int .i64 a1] w fun e w' => e = .returned (.int .i64 r) ∧ Drawn0 w w' := by
 have HR0 := Aside0.mk hr0
 have HC0 := Aside0.mk hc0
 clear hr0 hc0
 have H : (slices_Index_int64_int64.l0 k l0 a1 (l0.length : Int) 0) = some r := h
 clear h
 have H' := Aside0.mk H
 clear H
 go_enter Tryd.func58, Tryd.ntmps58
 go_wp2
 go_loopg [8] k (fun kq v8 w' => ∃ (x8_1 : Int), v8 = .int .i64 x8_1 ∧ Aside0 (slices_Index_int64_int64.l0 kq l0 a1 (l0.length : Int) x8_1 = some r) ∧ Aside0 (kq ≤ k) ∧ Drawn0 w w')
 case atStart => exact ⟨(0), (eW), H', ⟨Nat.le_refl _⟩, by repeat (first | exact Drawn0.refl _ | apply Drawn0.step)⟩
 case round =>
  clear H'
  try clear p2
  obtain ⟨x8_1, rfl, HA, HK1, ⟨m1, rfl⟩⟩ := hrel
  cases gk with
  | zero => exact absurd HA.out (by simp [slices_Index_int64_int64.l0])
  | succ k1 =>
   have H := HA.out
   clear HA
   simp only [slices_Index_int64_int64.l0] at H
   by_cases c3 : x8_1 < (l0.length : Int)
   ·rw [if_pos c3] at H
    have c3b0 : decide (x8_1 < (l0.length : Int)) = true := decide_eq_true c3
    clear c3
    by_cases c4 : 0 ≤ x8_1
    ·rw [if_pos c4] at H
     have c4b0 : decide (0 ≤ x8_1) = true := decide_eq_true c4
     clear c4
     by_cases c5 : x8_1 < (l0.length : Int)
     ·rw [if_pos c5] at H
      have c5b0 : decide (x8_1 < (l0.length : Int)) = true := decide_eq_true c5
      clear c5
      by_cases c6 : a1 = (rd l0 x8_1)
      ·rw [if_pos c6] at H
       have c6b0 : (a1 == (rd l0 x8_1)) = true := beq_iff_eq.mpr c6
       have c6b1 : (a1 != (rd l0 x8_1)) = false := bne_eq_false_iff_eq.mpr c6
       clear c6
       obtain rfl := Option.some.inj H
       have p266 : 0 ≤ (x8_1 : Int) := ofD
       have q266 : x8_1 < (l0.length : Int) := ofD
       obtain ⟨ad266, e266, hx266_0⟩ := Kd.at_int HR0.out x8_1 p266 q266
       cases e266
       replace p266 := eq_true p266
       replace q266 := eq_true q266
       go_wp2
       go_ret
       exact ⟨eW, by repeat (first | exact Drawn0.refl _ | apply Drawn0.step)⟩
      ·rw [if_neg c6] at H
       have c6b0 : (a1 == (rd l0 x8_1)) = false := beq_eq_false_iff_ne.mpr c6
       have c6b1 : (a1 != (rd l0 x8_1)) = true := bne_iff_ne.mpr c6
       have H' := Aside0.mk H
       clear H
       have p266 : 0 ≤ (x8_1 : Int) := ofD
       have q266 : x8_1 < (l0.length : Int) := ofD
       obtain ⟨ad266, e266, hx266_0⟩ := Kd.at_int HR0.out x8_1 p266 q266
       cases e266
       replace p266 := eq_true p266
       replace q266 := eq_true q266
       go_wp2
       go_roundg k1
       case measure => have := HK1.out; omega
       case rel => exact ⟨(wrap64 (x8_1 + 1)), (eW), H', ⟨by have := HK1.out; omega⟩, by repeat (first | exact Drawn0.refl _ | apply Drawn0.step)⟩
     ·rw [if_neg c5] at H
      exact absurd H (by simp)
    ·rw [if_neg c4] at H
     exact absurd H (by simp)
   ·rw [if_neg c3] at H
    have c3b0 : decide (x8_1 < (l0.length : Int)) = false := decide_eq_false c3
    clear c3
    obtain rfl := Option.some.inj H
    go_wp2
    go_ret
    exact ⟨eW, by repeat (first | exact Drawn0.refl _ | apply Drawn0.step)⟩
/-! ### slices_Contains_int64_int64: function 43 -/
def slices_Contains_int64_int64.f (k : Nat) (l0 : List Int) (a1 : Int) : Option (Bool) := (slices_Index_int64_int64.f k l0 a1).bind fun t267 => (some (decide (t267 ≥ 0)))
set_option maxHeartbeats 8000000 in
set_option maxRecDepth 100000 in
theorem slices_Contains_int64_int64.calls (k : Nat) (A0 : Option Addr) (c0 : Nat) (l0 : List Int) (a1 : Int) (r : Bool) (w : World) (hr0 : Kd.C (Kd.int .i64) w A0 l0.length l0) (hc0 : l0.length ≤ c0) (h : slices_Contains_int64_int64.f k l0 a1 = some r) :
  Calls Tryd.prog 43 #[.slice A0 l0.length c0, .int .i64 a1] w fun e w' => e = .returned (.bool r) ∧ Drawn0 w w' := by
 have HR0 := Aside0.mk hr0
 have HC0 := Aside0.mk hc0
 clear hr0 hc0
 have H : ((slices_Index_int64_int64.f k l0 a1).bind fun t267 => (some (decide (t267 ≥ 0)))) = some r := h
 clear h
 replace H := Option.bind_eq_some_iff.mp H
 obtain ⟨t267, A30, H⟩ := H
 replace H : (some (decide (t267 ≥ 0))) = some r := H
 have A3 := Aside0.mk A30
 clear A30
 obtain rfl := Option.some.inj H
 go_enter Tryd.func43, Tryd.ntmps43
 go_wp2_with (first | ((with_reducible refine gate_callee (f := 58) rfl ?_); refine goesS (some 7) Tryd.func58 #[.slice A0 l0.length c0, .int .i64 a1] ?_; (with_reducible refine (slices_Index_int64_int64.calls k _ _ l0 a1 t267 _ ?side1 ?side2 A3.out).mono ?_); (case side1 => exact cP HR0.out); (case side2 => exact HC0.out); rintro e w' ⟨rfl, ⟨nd, rfl⟩⟩; refine ⟨_, rfl, ?_⟩))
 go_ret
 exact ⟨eW, by repeat (first | exact Drawn0.refl _ | apply Drawn0.step)⟩
/-! ### slices_Sort_int64_int64: function 44 -/
theorem srtS_form {e base : Nat} {w : World} {ok : Nat → Prop} {v : Value} {xs : List Int} (h : Kd.R (Kd.int .i64) e w base ok v xs) :
    (∃ A c, v = .slice A 0 c ∧ xs = []) ∨ ∃ g cap cur, v = .slice (some ⟨g, 0, none⟩) xs.length cap ∧ ok g ∧ base ≤ g ∧ w.heap[g]? = some (.cells cur e (0, 0)) ∧ xs.length ≤ cap ∧ cap ≤ maxLen ∧ cur.size = cap ∧ cur.toList.take xs.length = xs.map (Value.int .i64) := by
  obtain ⟨h0, inner, ⟨hl, hcase⟩, hr⟩ := h
  have hl1 : inner.length = xs.length := by have := hr.1; simpa [Kd.int, Kd.scalar] using this
  have hin : inner = xs.map (Value.int .i64) := by
    apply List.ext_getElem?
    intro j
    by_cases hj : j < xs.length
    · have h3 : (inner.drop (j * 1)).take 1 = [Value.int .i64 xs[j]] := hr.2 j xs[j] (List.getElem?_eq_getElem hj)
      have h4 : ((inner.drop (j * 1)).take 1)[0]? = ([Value.int .i64 xs[j]] : List Value)[0]? := by rw [h3]
      rw [List.getElem?_take_of_lt (by omega), List.getElem?_drop] at h4
      rw [List.getElem?_map, List.getElem?_eq_getElem hj]
      simpa using h4
    · rw [List.getElem?_eq_none (by omega), List.getElem?_eq_none (by rw [List.length_map]; omega)]
  subst hin
  rcases hcase with ⟨rfl, hn⟩ | ⟨g, cap, cur, rfl, hg, hh, h1, h2, h3, h4⟩
  · exact .inl ⟨none, 0, rfl, List.eq_nil_of_length_eq_zero hn⟩
  · exact .inr ⟨g, cap, cur, rfl, h0 g rfl, hg, hh, h1, h2, by simpa [Kd.int, Kd.scalar] using h3, by simpa [Kd.int, Kd.scalar] using h4⟩
theorem srtS_holds {e g cap : Nat} {w : World} {cur : Array Value} {xs : List Int} (hh : w.heap[g]? = some (.cells cur e (0, 0))) (h4 : cur.toList.take xs.length = xs.map (Value.int .i64)) :
    Go.Sort.Holds (Value.int .i64) w g 0 xs.toArray := by
  intro j hj
  have hj' : j < xs.length := by simpa using hj
  have hc : cur[j]? = some (Value.int .i64 xs[j]) := by
    have h5 : (cur.toList.take xs.length)[j]? = (xs.map (Value.int .i64))[j]? := by rw [h4]
    rw [List.getElem?_take_of_lt hj', List.getElem?_map, List.getElem?_eq_getElem hj'] at h5
    simpa using h5
  refine ⟨?_, ?_⟩
  · simp only [World.cell?, hh, Nat.zero_add]
    rw [show (List.toArray xs)[j]! = xs[j] by simp [hj']]
    simpa using hc
  · simp only [World.frozen?, hh]
    simp
theorem srtS_world {e g n : Nat} {w : World} {cur : Array Value} {ds : List Int} {os : Array Obj} (hh : w.heap[g]? = some (.cells cur e (0, 0))) :
    (Go.Sort.grow (Go.Sort.putRow (Value.int .i64) (Go.Sort.ahead w n) g 0 ds.toArray) os).heap[g]? = some (.cells (Go.Sort.putCells (Value.int .i64) 0 ds.toArray cur) e (0, 0)) := by
  have hg : g < w.heap.size := by
    rcases Nat.lt_or_ge g w.heap.size with h | h
    · exact h
    · rw [Array.getElem?_eq_none h] at hh
      cases hh
  rw [Go.Sort.heap_grow_old _ _ (by simpa using hg)]
  simp only [Go.Sort.putRow, Go.Sort.mapBlock, Array.getElem?_modify, Go.Sort.heap_ahead, if_true, hh, Option.map_some, Go.Sort.onCells]
theorem srtS_old {g n k : Nat} {w : World} {ds : List Int} {os : Array Obj} (hk : k < w.heap.size) (hne : k ≠ g) :
    (Go.Sort.grow (Go.Sort.putRow (Value.int .i64) (Go.Sort.ahead w n) g 0 ds.toArray) os).heap[k]? = w.heap[k]? := by
  rw [Go.Sort.heap_grow_old _ _ (by simpa using hk)]
  simp only [Go.Sort.putRow, Go.Sort.mapBlock, Array.getElem?_modify, Go.Sort.heap_ahead]
  rw [if_neg (fun h => hne h.symm)]
theorem srtS_cells {cur : Array Value} {ds : List Int} (h : ds.length ≤ cur.size) : (Go.Sort.putCells (Value.int .i64) 0 ds.toArray cur).toList.take ds.length = ds.map (Value.int .i64) := by
  apply List.ext_getElem?
  intro j
  by_cases hj : j < ds.length
  · rw [List.getElem?_take_of_lt hj, List.getElem?_map, List.getElem?_eq_getElem hj, Array.getElem?_toList]
    simp only [Go.Sort.putCells, Array.getElem?_mapIdx]
    rw [Array.getElem?_eq_getElem (by omega), Option.map_some, if_pos ⟨Nat.zero_le _, by simpa using hj⟩]
    simp [hj]
  · rw [List.getElem?_eq_none (by rw [List.length_take]; omega), List.getElem?_eq_none (by rw [List.length_map]; omega)]
theorem srtS_back {e base g cap n : Nat} {w : World} {ok : Nat → Prop} {cur : Array Value} {ds ys : List Int} {os : Array Obj} (hok : ok g) (hg : base ≤ g) (hh : w.heap[g]? = some (.cells cur e (0, 0))) (hd : ds.length ≤ cap) (hm : cap ≤ maxLen) (hc : cur.size = cap) (hy : ys = ds.take ys.length) :
    Kd.R (Kd.int .i64) e (Go.Sort.grow (Go.Sort.putRow (Value.int .i64) (Go.Sort.ahead w n) g 0 ds.toArray) os) base ok (.slice (some ⟨g, 0, none⟩) ys.length cap) ys := by
  have hyl : ys.length ≤ ds.length := by
    have := congrArg List.length hy
    rw [List.length_take] at this
    omega
  have h5 := srtS_cells (cur := cur) (ds := ds) (by omega)
  refine ⟨fun k hk => ?_, ys.map (Value.int .i64), ⟨by simp [Kd.int, Kd.scalar], .inr ⟨g, cap, _, rfl, hg, srtS_world hh, by omega, hm, by simpa [Kd.int, Kd.scalar, Go.Sort.putCells] using hc, ?_⟩⟩, ?_⟩
  · have : g = k := by simpa [Value.ownBlock] using hk
    subst this
    exact hok
  · have h6 := congrArg (List.take ys.length) h5
    rw [List.take_take, Nat.min_eq_left hyl, ← List.map_take, ← hy] at h6
    simpa [Kd.int, Kd.scalar] using h6
  · refine ⟨by simp [Kd.int, Kd.scalar], fun j p hj => ?_⟩
    have hj' : j < ys.length := (List.getElem?_eq_some_iff.1 hj).1
    have hp : ys[j] = p := (List.getElem?_eq_some_iff.1 hj).2
    show ((ys.map (Value.int .i64)).drop (j * 1)).take 1 = [Value.int .i64 p]
    rw [Nat.mul_one, List.drop_eq_getElem_cons (by simpa using hj')]
    simp [hp]
theorem srtS_mono {w W : World} {g n : Nat} {ds : List Int} {os : Array Obj} {w0 : World} (hB : Below w0.heap.size w0 w) (hg : w0.heap.size ≤ g) : Below w0.heap.size w0 (Go.Sort.grow (Go.Sort.putRow (Value.int .i64) (Go.Sort.ahead w n) g 0 ds.toArray) os) :=
  ⟨hB.os, hB.tape, hB.output, Nat.le_trans hB.size (by rw [Go.Sort.size_grow, Go.Sort.size_putRow, Go.Sort.heap_ahead]; omega), fun k hk => (srtS_old (Nat.lt_of_lt_of_le hk hB.size) (by omega)).trans (hB.block k hk)⟩
theorem srtS_kept {w : World} {g n : Nat} {ds : List Int} {os : Array Obj} {S : Nat → Prop} (hg : S g) : Kept w (Go.Sort.grow (Go.Sort.putRow (Value.int .i64) (Go.Sort.ahead w n) g 0 ds.toArray) os) S :=
  ⟨by rw [Go.Sort.size_grow, Go.Sort.size_putRow, Go.Sort.heap_ahead]; omega, fun k hk hn => srtS_old hk (fun e => hn (by rw [e]; exact hg))⟩
def srtS_lay_ren : Go.Shelf.Ren := ⟨fun | 5 => 44 | 8 => 60 | 7 => 59 | 19 => 74 | 20 => 75 | 10 => 65 | 11 => 66 | 12 => 67 | 13 => 68 | 14 => 69 | 15 => 70 | 16 => 71 | 17 => 72 | 18 => 73 | 30 => 79 | 31 => 80 | 32 => 81 | 33 => 82 | 34 => 83 | 35 => 84 | 40 => 86 | n => n, fun | 23 => 22 | 25 => 2 | 3 => 3 | 32 => 78 | 22 => 22 | 0 => 0 | 44 => 90 | 46 => 69 | 4 => 4 | 36 => 83 | 35 => 82 | 41 => 87 | 5 => 5 | 9 => 9 | 53 => 94 | 57 => 98 | 63 => 102 | 64 => 103 | n => n, fun | n => n⟩
theorem srtS_lay : Go.Proofs.SlLaysM.n5 Tryd.prog srtS_lay_ren where
  mixed := by kernel_rfl
  f5 := ⟨ "slices.Sort[[]int64,int64]", by decide, Tryd.func44.trans (congrArg some (by kernel_rfl))⟩
  f7 := ⟨ "slices.pdqsortOrdered[int64]", by decide, Tryd.func59.trans (congrArg some (by kernel_rfl))⟩
  f8 := Tryd.func60.trans (congrArg some (by kernel_rfl))
  f10 := ⟨ "slices.insertionSortOrdered[int64]", by decide, Tryd.func65.trans (congrArg some (by kernel_rfl))⟩
  f11 := ⟨ "slices.heapSortOrdered[int64]", by decide, Tryd.func66.trans (congrArg some (by kernel_rfl))⟩
  f12 := ⟨ "slices.breakPatternsOrdered[int64]", by decide, Tryd.func67.trans (congrArg some (by kernel_rfl))⟩
  f13 := ⟨ "slices.choosePivotOrdered[int64]", by decide, Tryd.func68.trans (congrArg some (by kernel_rfl))⟩
  f14 := ⟨ "slices.reverseRangeOrdered[int64]", by decide, Tryd.func69.trans (congrArg some (by kernel_rfl))⟩
  f15 := ⟨ "slices.partialInsertionSortOrdered[int64]", by decide, Tryd.func70.trans (congrArg some (by kernel_rfl))⟩
  f16 := ⟨ "cmp.Less[int64]", by decide, Tryd.func71.trans (congrArg some (by kernel_rfl))⟩
  f17 := ⟨ "slices.partitionEqualOrdered[int64]", by decide, Tryd.func72.trans (congrArg some (by kernel_rfl))⟩
  f18 := ⟨ "slices.partitionOrdered[int64]", by decide, Tryd.func73.trans (congrArg some (by kernel_rfl))⟩
  f19 := Tryd.func74.trans (congrArg some (by kernel_rfl))
  f20 := Tryd.func75.trans (congrArg some (by kernel_rfl))
  f30 := ⟨ "slices.siftDownOrdered[int64]", by decide, Tryd.func79.trans (congrArg some (by kernel_rfl))⟩
  f31 := Tryd.func80.trans (congrArg some (by kernel_rfl))
  f32 := Tryd.func81.trans (congrArg some (by kernel_rfl))
  f33 := ⟨ "slices.medianAdjacentOrdered[int64]", by decide, Tryd.func82.trans (congrArg some (by kernel_rfl))⟩
  f34 := ⟨ "slices.medianOrdered[int64]", by decide, Tryd.func83.trans (congrArg some (by kernel_rfl))⟩
  f35 := ⟨ "cmp.isNaN[int64]", by decide, Tryd.func84.trans (congrArg some (by kernel_rfl))⟩
  f40 := ⟨ "slices.order2Ordered[int64]", by decide, Tryd.func86.trans (congrArg some (by kernel_rfl))⟩
  t0 := Tryd.underlying0
  a0 := Tryd.isAgg0
  z0 := Tryd.sizeOf0
  v0 := Tryd.zeroValue0
  t3 := Tryd.underlying3
  a3 := Tryd.isAgg3
  z3 := Tryd.sizeOf3
  v3 := Tryd.zeroValue3
  t4 := Tryd.underlying4
  a4 := Tryd.isAgg4
  z4 := Tryd.sizeOf4
  v4 := Tryd.zeroValue4
  t5 := Tryd.underlying5
  a5 := Tryd.isAgg5
  z5 := Tryd.sizeOf5
  v5 := Tryd.zeroValue5
  t9 := Tryd.underlying9
  a9 := Tryd.isAgg9
  z9 := Tryd.sizeOf9
  v9 := Tryd.zeroValue9
  t22 := Tryd.underlying22
  a22 := Tryd.isAgg22
  z22 := Tryd.sizeOf22
  v22 := Tryd.zeroValue22
  t23 := Tryd.underlying22
  a23 := Tryd.isAgg22
  z23 := Tryd.sizeOf22
  v23 := Tryd.zeroValue22
  t25 := Tryd.underlying2
  a25 := Tryd.isAgg2
  z25 := Tryd.sizeOf2
  v25 := Tryd.zeroValue2
  t32 := Tryd.underlying78
  a32 := Tryd.isAgg78
  z32 := Tryd.sizeOf78
  v32 := Tryd.zeroValue78
  t35 := Tryd.underlying82
  a35 := Tryd.isAgg82
  z35 := Tryd.sizeOf82
  v35 := Tryd.zeroValue82
  t36 := Tryd.underlying83
  a36 := Tryd.isAgg83
  z36 := Tryd.sizeOf83
  v36 := Tryd.zeroValue83
  t41 := Tryd.underlying87
  a41 := Tryd.isAgg87
  z41 := Tryd.sizeOf87
  v41 := Tryd.zeroValue87
  t44 := Tryd.underlying90
  a44 := Tryd.isAgg90
  z44 := Tryd.sizeOf90
  v44 := Tryd.zeroValue90
  t46 := Tryd.underlying69
  a46 := Tryd.isAgg69
  z46 := Tryd.sizeOf69
  v46 := Tryd.zeroValue69
  t53 := Tryd.underlying94
  a53 := Tryd.isAgg94
  z53 := Tryd.sizeOf94
  v53 := Tryd.zeroValue94
  t57 := Tryd.underlying98
  a57 := Tryd.isAgg98
  z57 := Tryd.sizeOf98
  v57 := Tryd.zeroValue98
  t63 := Tryd.underlying102
  a63 := Tryd.isAgg102
  z63 := Tryd.sizeOf102
  v63 := Tryd.zeroValue102
  t64 := Tryd.underlying103
  a64 := Tryd.isAgg103
  z64 := Tryd.sizeOf103
  v64 := Tryd.zeroValue103
def slices_Sort_int64_int64.f (l0 : List Int) : Option (List Int) := if l0.length < 4611686018427387904 then some (l0.mergeSort fun x y => decide (x ≤ y)) else none
theorem slices_Sort_int64_int64.calls (P0_ : Nat → Prop) (u9000_ : Value) (l0 : List Int) (r : List Int) (w0 w : World) (hB : Below w0.heap.size w0 w) (ho0 : Kd.R (Kd.int .i64) 2 w w0.heap.size P0_ u9000_ l0) (h : slices_Sort_int64_int64.f l0 = some r) :
    Calls Tryd.prog 44 #[u9000_] w fun e w' => e = .returned (.tuple #[]) ∧ Kd.R (Kd.int .i64) 2 w' w0.heap.size (fun k_ => (P0_ k_ ∨ w.heap.size ≤ k_)) u9000_ r ∧ Below w0.heap.size w0 w' ∧ Kept w w' (fun k_ => P0_ k_) := by
  unfold slices_Sort_int64_int64.f at h
  by_cases hc : l0.length < 4611686018427387904
  · rw [if_pos hc] at h
    obtain rfl := Option.some.inj h
    rcases srtS_form ho0 with ⟨A, c, rfl, rfl⟩ | ⟨g, cap, cur, rfl, hg, hb, hh, h1, h2, h3, h4⟩
    · refine (AnyM.slices_Sort_int_none srtS_lay A c w).mono ?_
      rintro e w' ⟨rfl, rfl⟩
      rw [List.mergeSort_nil]
      exact ⟨rfl, Kd.R_mono ho0 (fun _ hk => .inl hk), hB, Kept.refl _ _⟩
    · have hlt : g < w.heap.size := by
        rcases Nat.lt_or_ge g w.heap.size with h | h
        · exact h
        · rw [Array.getElem?_eq_none h] at hh
          cases hh
      refine (AnyM.slices_Sort_int srtS_lay g 0 cap l0 w (srtS_holds (cap := cap) hh h4) hlt hc).mono ?_
      rintro e w' ⟨rfl, n, os, rfl⟩
      have hlen : (l0.mergeSort fun x y => decide (x ≤ y)).length = l0.length := List.length_mergeSort _
      have hB2 := srtS_back (e := 2) (base := w0.heap.size) (n := n) (os := os) (ok := fun k_ => (P0_ k_ ∨ w.heap.size ≤ k_)) (ds := l0.mergeSort fun x y => decide (x ≤ y)) (ys := l0.mergeSort fun x y => decide (x ≤ y)) (.inl hg) hb hh (by omega) h2 h3 (by rw [List.take_length])
      rw [hlen] at hB2
      exact ⟨rfl, hB2, srtS_mono (W := w) hB hb, srtS_kept hg⟩
  · rw [if_neg hc] at h
    cases h
end Go.Proofs.YtcbcfkmeemenkaaDoor.P
end M1
