import Derived.ArgAppend
import Derived.Below
import Derived.BigQuiet
import Derived.Deep.AppendLies
import Derived.Deep.CutBlock
import Derived.Deep.DeepCutAuto
import Derived.Deep.Draws
import Derived.Deep.LoopGhost
import Derived.Deep.OwnRows
import Derived.Deep.QuietTactic
import Derived.Deep.RegionHeld3
import Derived.KernelRfl
import Derived.Laws.BitsLemmas
import Derived.Laws.BytesArg
import Derived.Laws.IdiomCopy
import Derived.Laws.MakeOwn
import Derived.Laws.OwnMore
import Derived.Laws.Rows
import Derived.Laws.Slices
import Derived.Laws.StructEq
import Derived.Lib.AppendStr
import Derived.Lib.ConvBytes
import Derived.Lib.SliceRun
import Derived.Maps.AppendAt
import Derived.OrdersHeld
import Derived.OwnWalk
import Derived.RowKit
import Derived.RowKit3
import Derived.Shelf.Abstract
import Derived.Shelf.Spec.TrailingZeros
import Derived.Tactics
import Derived.Test.YthbaocejgjpfoaaDoorProg
import Derived.WalkKit
import Derived.WideLaws
import Derived.Test.YthbaocejgjpfoaaDoorCFnExpressionTexts3
import Derived.Test.YthbaocejgjpfoaaDoorCFnExpressionTexts4
section M0
namespace Go.Proofs.YthbaocejgjpfoaaDoor.P
open Go.RowKit Go.Proofs.YthbaocejgjpfoaaDoor.Sh Go.Proofs.YthbaocejgjpfoaaDoorW.PrintWords Go.Proofs.YthbaocejgjpfoaaDoorW.PrintLast Go.Proofs.YthbaocejgjpfoaaDoorW.PrintMore
attribute [local go_sem] max2_int min2_int max_two min_two max_three min_three max_four min_four   -- for this text's walks alone
set_option linter.unusedVariables false
set_option linter.unusedSimpArgs false
/-! ### impl_termEnd: function 99 -/
mutual
def impl_termEnd.j0 : Nat → List (S84) → Int → Bool → Int → List Int → Option (Int)
 | 0, _, _, _, _, _ => none
 | k + 1, x1, x2, x20, x276000, x276001 => if x20 = true then (some (-1)) else (if 0 ≤ x2 then (if x2 < (x1.length : Int) then (if ((rd_T84 x1 x2).f0) = 2 then ((impl_isLetter.f x276000 x276001 ((rd_T84 x1 x2).f1)).bind fun t280 => (if t280 = true then (impl_termEnd.j1 k x1 x2 false x276000 x276001) else (impl_termEnd.j1 k x1 x2 true x276000 x276001))) else (impl_termEnd.j1 k x1 x2 (((rd_T84 x1 x2).f1) != 0) x276000 x276001)) else (none)) else (none))
def impl_termEnd.j1 : Nat → List (S84) → Int → Bool → Int → List Int → Option (Int)
 | 0, _, _, _, _, _ => none
 | k + 1, x1, x2, x52, x276000, x276001 => if x52 = true then (some (-1)) else (if 0 ≤ x2 then (if x2 < (x1.length : Int) then ((impl_partsIn.f ((rd_T84 x1 x2).f0)).bind fun t285 => (impl_termEnd.l0 k x1 (wrap64 (x2 + 1)) t285 0 x276000 x276001)) else (none)) else (none))
def impl_termEnd.l0 : Nat → List (S84) → Int → Int → Int → Int → List Int → Option (Int)
 | 0, _, _, _, _, _, _ => none
 | k + 1, x1, x7, x60, x61, x276000, x276001 => if x61 < x60 then ((impl_termEnd.f k x276000 x276001 x1 x7).bind fun t286 => (if t286 < 0 then (some (-1)) else (impl_termEnd.l0 k x1 t286 x60 (wrap64 (x61 + 1)) x276000 x276001))) else (some x7)
def impl_termEnd.f : Nat → Int → List Int → List (S84) → Int → Option (Int)
 | 0, _, _, _, _ => none
 | k + 1, a0_0, l0_1, l1, a2 => if a2 ≥ (l1.length : Int) then (impl_termEnd.j0 k l1 a2 true a0_0 l0_1) else (if 0 ≤ a2 then (if a2 < (l1.length : Int) then ((impl_inRange.f ((rd_T84 l1 a2).f0) 0 5).bind fun t277 => (impl_termEnd.j0 k l1 a2 (!t277) a0_0 l0_1)) else (none)) else (none))
end
def impl_termEnd.T3 : Bool × List (List Nat × List Nat) := (true, [([], []), ([], []), ([0, 1], [0, 1]), ([2], [2]), ([3], [3]), ([4], [4]), ([5], [5]), ([6], [6]), ([6], [6]), ([6], [6]), ([8, 9, 6], [6, 8, 9]), ([10, 6], [6, 10]), ([11, 6], [6, 11]), ([7, 12, 6, 6], [6, 7, 12]), ([13, 6], [6, 13]), ([6, 14], [6, 14]), ([15, 13], [15]), ([16], [16]), ([16], [16]), ([17, 18, 16], [16, 17, 18]), ([19, 16], [16, 19]), ([20, 16], [16, 20]), ([21, 16], [16, 21]), ([22, 16, 16], [16, 22]), ([23], [23]), ([23], [23]), ([24, 25, 23], [23, 24, 25]), ([26, 23], [23, 26]), ([27, 23], [23, 27]), ([28, 23], [23, 28]), ([23, 29, 16], [16, 23, 29]), ([16, 30], [16, 30])])
def impl_termEnd.B3 : List Nat := [0, 0, 3, 7, 15, 31, 63, 127, 127, 127, 895, 1919, 3967, 8191, 16383, 32767, 65535, 131071, 131071, 524287, 1048575, 2097151, 4194303, 8388607, 16777215, 16777215, 67108863, 134217727, 268435455, 536870911, 1073741823, 2147483647]
theorem impl_termEnd.tab3 : rtab .any (opsOf Tryd.f99 3) = impl_termEnd.T3 := by kernel_rfl
theorem impl_termEnd.bits3 : waitsOk impl_termEnd.T3.2 impl_termEnd.B3 = true := by kernel_rfl
set_option maxHeartbeats 8000000 in
set_option maxRecDepth 100000 in
theorem impl_termEnd.calls (k : Nat) : ∀ (a0_0 : Int) (A0_1 : Option Addr) (c0_1 : Nat) (l0_1 : List Int) (A1 : Option Addr) (c1 : Nat) (l1 : List (S84)) (a2 : Int) (r : Int) (w : World) (hr0_1 : Kd.C (Kd.int .i64) w A0_1 l0_1.length l0_1) (hc0_1 : l0_1.length ≤ c0_1) (hr1 : Kd.C k84 w A1 l1.length l1) (hc1 : l1.length ≤ c1) (h : impl_termEnd.f k a0_0 l0_1 l1 a2 = some r),
  Calls Tryd.prog 99 #[.agg #[.int .i64 a0_0, .slice A0_1 l0_1.length c0_1], .slice A1 l1.length c1, .int .i64 a2] w fun e w' => e = .returned (.int .i64 r) ∧ Below w.heap.size w w' := by
 induction k using Nat.strongRecOn with
 | _ k ih =>
 intro a0_0 A0_1 c0_1 l0_1 A1 c1 l1 a2 r w hr0_1 hc0_1 hr1 hc1 h
 cases k with
 | zero => exact absurd h (by simp [impl_termEnd.f])
 | succ k =>
 simp only [impl_termEnd.f] at h
 have hu29 := Tryd.underlying29
 have HR0_1 := Aside0.mk hr0_1
 have HC0_1 := Aside0.mk hc0_1
 clear hr0_1 hc0_1
 have HR1 := Aside0.mk hr1
 have HC1 := Aside0.mk hc1
 clear hr1 hc1
 have HB := Aside0.mk (Below.refl w.heap.size w)
 have H : (if a2 ≥ (l1.length : Int) then (impl_termEnd.j0 k l1 a2 true a0_0 l0_1) else (if 0 ≤ a2 then (if a2 < (l1.length : Int) then ((impl_inRange.f ((rd_T84 l1 a2).f0) 0 5).bind fun t277 => (impl_termEnd.j0 k l1 a2 (!t277) a0_0 l0_1)) else (none)) else (none))) = some r := h
 clear h
 have HC4 := Aside0.mk H
 clear H
 go_enter Tryd.func99, Tryd.ntmps99
 go_upto_region 1 with (first | ((with_reducible refine gate_dst (N := 3) rfl ?_); refine boxS (N := 3) (cs := #[.int .i64 a0_0, .slice A0_1 l0_1.length c0_1]) (t := 29) ?_; intro gb275 hg w5 hbox hb; have n0_ := Aside0.mk (below_step (bW) hb); have n1_ := Aside0.mk (hbox); have n2_ := geW (w := w) hg; have n3_ := geW (w := w) hg; clear HB; have HB := n0_; have BK275 := n1_; have GW275 := n2_; have GE275 := n3_; clear n0_ n1_ n2_ n3_ hb hbox hg))
 (try simp only [Act.put, List.setIfInBounds_toArray, List.set_cons_zero, List.set_cons_succ])
 go_cut [20] (fun v20 wc => ∃ (kq : Nat) (x20_3 : Bool), v20 = .bool x20_3 ∧ Aside0 (impl_termEnd.j0 kq l1 a2 x20_3 a0_0 l0_1 = some r) ∧ Aside0 (kq ≤ k) ∧ Aside0 (wc.heap[gb275]? = some (.cells #[.int .i64 a0_0, (.slice A0_1 l0_1.length c0_1)] 29 (0, 0))) ∧ Aside0 (Below w.heap.size w wc))
 case first =>
  have H := HC4.out
  clear HC4
  by_cases c6 : a2 ≥ (l1.length : Int)
  ·rw [if_pos c6] at H
   have c6b0 : decide ((l1.length : Int) ≤ a2) = true := decide_eq_true c6
   clear c6
   (first | rw [c6b0] | (simp only [i64_w, i32_w]; rw [c6b0]) | skip)
   have H' := Aside0.mk H
   clear H
   go_wp2
   go_meet
   case rel => exact ⟨_, (true), (eW), H', ⟨by first | omega | exact Nat.le_refl _⟩, ⟨(bP BK275.out)⟩, ⟨bW⟩⟩
  ·rw [if_neg c6] at H
   have c6b0 : decide ((l1.length : Int) ≤ a2) = false := decide_eq_false c6
   clear c6
   (first | rw [c6b0] | (simp only [i64_w, i32_w]; rw [c6b0]) | skip)
   by_cases c7 : 0 ≤ a2
   ·rw [if_pos c7] at H
    have c7b0 : decide (0 ≤ a2) = true := decide_eq_true c7
    clear c7
    by_cases c8 : a2 < (l1.length : Int)
    ·rw [if_pos c8] at H
     have c8b0 : decide (a2 < (l1.length : Int)) = true := decide_eq_true c8
     clear c8
     replace H := Option.bind_eq_some_iff.mp H
     obtain ⟨t277, A90, H⟩ := H
     replace H : (impl_termEnd.j0 k l1 a2 (!t277) a0_0 l0_1) = some r := H
     have A9 := Aside0.mk A90
     clear A90
     have H' := Aside0.mk H
     clear H
     have p276 : 0 ≤ (a2 : Int) := ofD
     have q276 : a2 < (l1.length : Int) := ofD
     obtain ⟨ad276, e276, hx276_0, hx276_1⟩ := at_T84 HR1.out a2 p276 q276
     cases e276
     replace hx276_0 := (HB.out.cell (World.block_lt_of_cell? w _ hx276_0)).trans hx276_0
     replace hx276_1 := (HB.out.cell (World.block_lt_of_cell? w _ hx276_1)).trans hx276_1
     replace p276 := eq_true p276
     replace q276 := eq_true q276
     go_wp2_with (first | (go_at_call 109; (with_reducible refine (impl_inRange.calls ((rd_T84 l1 a2).f0) 0 5 t277 _ A9.out).mono ?_); rintro e w' ⟨rfl, ⟨nd, rfl⟩⟩))
     go_meet
     case rel => exact ⟨_, (!t277), (eW), H', ⟨by first | omega | exact Nat.le_refl _⟩, ⟨(bP BK275.out)⟩, ⟨bW⟩⟩
    ·rw [if_neg c8] at H
     exact absurd H (by simp)
   ·rw [if_neg c7] at H
    exact absurd H (by simp)
 case rest =>
  clear HC4
  try clear c1
  try clear p2
  try clear q2
  try clear hx2
  try clear c6
  try clear c6b0
  try clear c7
  try clear c7b0
  try clear c8
  try clear c8b0
  try clear c9
  try clear hx276_0
  try clear hx276_1
  try clear p276
  try clear q276
  obtain ⟨kq, x20_3, rfl, HA, HJ3, BK275, HB⟩ := hcut
  cases kq with
  | zero => exact absurd HA.out (by simp [impl_termEnd.j0])
  | succ kj3 =>
   have H := HA.out
   clear HA
   simp only [impl_termEnd.j0] at H
   by_cases c10 : x20_3 = true
   ·subst c10
    have H1 : (some (-1)) = some r := by rw [if_pos rfl] at H; exact H
    clear H
    have H := H1
    clear H1
    obtain rfl := Option.some.inj H
    go_wp2
    go_ret
    exact ⟨eW, bW⟩
   ·replace c10 := Bool.eq_false_iff.mpr c10
    subst c10
    have H1 : (if 0 ≤ a2 then (if a2 < (l1.length : Int) then (if ((rd_T84 l1 a2).f0) = 2 then ((impl_isLetter.f a0_0 l0_1 ((rd_T84 l1 a2).f1)).bind fun t280 => (if t280 = true then (impl_termEnd.j1 kj3 l1 a2 false a0_0 l0_1) else (impl_termEnd.j1 kj3 l1 a2 true a0_0 l0_1))) else (impl_termEnd.j1 kj3 l1 a2 (((rd_T84 l1 a2).f1) != 0) a0_0 l0_1)) else (none)) else (none)) = some r := by rw [if_neg (show ¬ (false = true) by decide)] at H; exact H
    clear H
    have H := H1
    clear H1
    have HC11 := Aside0.mk H
    clear H
    go_upto_region 3 with (fail)
    go_cut [52] (fun v52 wc => ∃ (kq : Nat) (x52_10 : Bool), v52 = .bool x52_10 ∧ Aside0 (impl_termEnd.j1 kq l1 a2 x52_10 a0_0 l0_1 = some r) ∧ Aside0 (kq ≤ kj3) ∧ Aside0 (wc.heap[gb275]? = some (.cells #[.int .i64 a0_0, (.slice A0_1 l0_1.length c0_1)] 29 (0, 0))) ∧ Aside0 (Below w.heap.size w wc))
    case first =>
     have H := HC11.out
     clear HC11
     by_cases c12 : 0 ≤ a2
     ·rw [if_pos c12] at H
      have c12b0 : decide (0 ≤ a2) = true := decide_eq_true c12
      clear c12
      (first | rw [c12b0] | (simp only [i64_w, i32_w]; rw [c12b0]) | skip)
      by_cases c13 : a2 < (l1.length : Int)
      ·rw [if_pos c13] at H
       have c13b0 : decide (a2 < (l1.length : Int)) = true := decide_eq_true c13
       clear c13
       by_cases c14 : ((rd_T84 l1 a2).f0) = 2
       ·rw [if_pos c14] at H
        have c14b0 : (((rd_T84 l1 a2).f0) == 2) = true := beq_iff_eq.mpr c14
        have c14b1 : (((rd_T84 l1 a2).f0) != 2) = false := bne_eq_false_iff_eq.mpr c14
        clear c14
        replace H := Option.bind_eq_some_iff.mp H
        obtain ⟨t280, A150, H⟩ := H
        replace H : (if t280 = true then (impl_termEnd.j1 kj3 l1 a2 false a0_0 l0_1) else (impl_termEnd.j1 kj3 l1 a2 true a0_0 l0_1)) = some r := H
        have A15 := Aside0.mk A150
        clear A150
        by_cases c16 : t280 = true
        ·subst c16
         have H1 : (impl_termEnd.j1 kj3 l1 a2 false a0_0 l0_1) = some r := by rw [if_pos rfl] at H; exact H
         clear H
         have H := H1
         clear H1
         have H' := Aside0.mk H
         clear H
         try go_wp2
         have n0_ := Aside0.mk (blk_drew BK275.out)
         have n1_ := Aside0.mk (below_drew1 HB.out)
         clear BK275 HB; have BK275 := n0_; have HB := n1_; clear n0_ n1_
         have p278 : 0 ≤ (a2 : Int) := ofD
         have q278 : a2 < (l1.length : Int) := ofD
         obtain ⟨ad278, e278, hx278_0, hx278_1⟩ := at_T84 HR1.out a2 p278 q278
         have hw278_1 := hx278_1
         have hw278_0 := hx278_0
         cases e278
         replace hx278_0 := (HB.out.cell (World.block_lt_of_cell? w _ hx278_0)).trans hx278_0
         replace hx278_1 := (HB.out.cell (World.block_lt_of_cell? w _ hx278_1)).trans hx278_1
         replace p278 := eq_true p278
         replace q278 := eq_true q278
         have p279 : 0 ≤ (a2 : Int) := ofD
         have q279 : a2 < (l1.length : Int) := ofD
         obtain ⟨ad279, e279, hx279_0, hx279_1⟩ := at_T84 HR1.out a2 p279 q279
         have hw279_1 := hx279_1
         have hw279_0 := hx279_0
         obtain rfl : ad278 = ad279 := (by injection e279)
         replace hx279_0 := (HB.out.cell (World.block_lt_of_cell? w _ hx279_0)).trans hx279_0
         replace hx279_1 := (HB.out.cell (World.block_lt_of_cell? w _ hx279_1)).trans hx279_1
         replace p279 := eq_true p279
         replace q279 := eq_true q279
         have p281 : 0 ≤ (a2 : Int) := ofD
         have q281 : a2 < (l1.length : Int) := ofD
         obtain ⟨ad281, e281, hx281_0, hx281_1⟩ := at_T84 HR1.out a2 p281 q281
         have hw281_1 := hx281_1
         have hw281_0 := hx281_0
         obtain rfl : ad278 = ad281 := (by injection e281)
         replace hx281_0 := (HB.out.cell (World.block_lt_of_cell? w _ hx281_0)).trans hx281_0
         replace hx281_1 := (HB.out.cell (World.block_lt_of_cell? w _ hx281_1)).trans hx281_1
         replace p281 := eq_true p281
         replace q281 := eq_true q281
         refine start_ (n := 32) (S := fun w' => w'.cell? ⟨gb275, 0, none⟩ = some (.int .i64 a0_0) ∧ w'.cell? ⟨gb275, 1, none⟩ = some (.slice A0_1 l0_1.length c0_1) ∧ w'.cell? (ad278.add ((a2).toNat * 2)) = some (.int .i64 ((rd_T84 l1 a2).f0)) ∧ w'.cell? ⟨(ad278.add ((a2).toNat * 2)).block, (ad278.add ((a2).toNat * 2)).off + 1, none⟩ = some (.int .i64 ((rd_T84 l1 a2).f1)) ∧ w'.cell? (ad278.add ((a2).toNat * 2)) = some (.int .i64 ((rd_T84 l1 a2).f0)) ∧ w'.cell? ⟨(ad278.add ((a2).toNat * 2)).block, (ad278.add ((a2).toNat * 2)).off + 1, none⟩ = some (.int .i64 ((rd_T84 l1 a2).f1)) ∧ w'.cell? (ad278.add ((a2).toNat * 2)) = some (.int .i64 ((rd_T84 l1 a2).f0)) ∧ w'.cell? ⟨(ad278.add ((a2).toNat * 2)).block, (ad278.add ((a2).toNat * 2)).off + 1, none⟩ = some (.int .i64 ((rd_T84 l1 a2).f1))) (ds := []) #[false, false, false, false, false, false, false, false, false, false, false, false, false, false, false, false, false, false, false, false, false, false, false, false, false, false, false, false, false, false, false, false] (by kernel_rfl) rfl rfl ⟨(blk_cell BK275.out 0).trans rfl, (blk_cell BK275.out 1).trans rfl, ((HB.out.cell (World.block_lt_of_cell? w _ hw278_0)).trans hw278_0), ((HB.out.cell (World.block_lt_of_cell? w _ hw278_1)).trans hw278_1), ((HB.out.cell (World.block_lt_of_cell? w _ hw279_0)).trans hw279_0), ((HB.out.cell (World.block_lt_of_cell? w _ hw279_1)).trans hw279_1), ((HB.out.cell (World.block_lt_of_cell? w _ hw281_0)).trans hw281_0), ((HB.out.cell (World.block_lt_of_cell? w _ hw281_1)).trans hw281_1)⟩ (fun hHeld => ?_); refine with_tabW impl_termEnd.tab3 impl_termEnd.bits3 (fun HT_ HW_ => ?_)
         generalize wc.drew = w17 at BK275 HB hx278_0 hx278_1 hx279_0 hx279_1 hx281_0 hx281_1 hHeld ⊢
         refine pureS (i := 0) (N := some 21) (any_of HT_.out (by kernel_rfl)) ?_
         refine pureS (i := 1) (N := some 22) (any_of HT_.out (by kernel_rfl)) ?_
         refine pureS (i := 2) (N := some 23) (any_of HT_.out (by kernel_rfl)) ?_
         refine pureS (i := 3) (N := some 24) (any_of HT_.out (by kernel_rfl)) ?_
         refine takeS (i := 4) (N := some 25) (take_ofW HT_.out HW_.out (by kernel_rfl)) hHeld ?_
         refine pureS (i := 5) (N := some 26) (any_of HT_.out (by kernel_rfl)) ?_
         refine pureS (i := 6) (N := some 27) (any_of HT_.out (by kernel_rfl)) ?_
         refine pureS (i := 8) (N := some 29) (any_of HT_.out (by kernel_rfl)) ?_
         refine pureS (i := 9) (N := some 30) (any_of HT_.out (by kernel_rfl)) ?_
         refine pureS (i := 10) (N := some 31) (any_of HT_.out (by kernel_rfl)) ?_
         refine pureS (i := 11) (N := some 32) (any_of HT_.out (by kernel_rfl)) ?_
         refine takeS (i := 7) (N := some 28) (take_ofW HT_.out HW_.out (by kernel_rfl)) hHeld ?_
         refine takeS (i := 12) (N := some 33) (take_ofW HT_.out HW_.out (by kernel_rfl)) hHeld ?_
         refine one_ (i := 13) (N := some 34) #[true, true, true, true, true, true, true, true, true, true, true, true, true, true, false, false, false, false, false, false, false, false, false, false, false, false, false, false, false, false, false, false] rfl rfl (one_of HT_.out (by kernel_rfl)) (by decide) (fun K hK => ?_)
         refine goes_ Tryd.func145 (by kernel_rfl) rfl #[.agg #[.int .i64 a0_0, .slice A0_1 l0_1.length c0_1], .int .i64 ((rd_T84 l1 a2).f1)] (by rfl) rfl rfl (by (try simp only [List.map_toArray, List.map_cons, List.map_nil]); first | done | rfl | (simp only [List.length_drop, List.length_take]; rfl)) ?_
         with_reducible refine (impl_isLetter.calls a0_0 _ _ l0_1 ((rd_T84 l1 a2).f1) true _ ?side1 ?side2 A15.out).mono ?_
         (case side1 => exact cP (Kd.C_below HR0_1.out HB.out))
         (case side2 => exact HC0_1.out)
         rintro e w18 ⟨rfl, hb⟩
         refine ⟨_, rfl, ?_⟩
         have n0_ := Aside0.mk (blkB BK275.out hb)
         have n1_ := Aside0.mk (below_step (bW) hb)
         clear BK275 HB; have BK275 := n0_; have HB := n1_; clear n0_ n1_
         (try clear hb)
         (try clear hb2)
         (try clear hk)
         (try clear hi)
         refine hK.out _ _ ⟨(blk_cell BK275.out 0).trans rfl, (blk_cell BK275.out 1).trans rfl, ((HB.out.cell (World.block_lt_of_cell? w _ hw278_0)).trans hw278_0), ((HB.out.cell (World.block_lt_of_cell? w _ hw278_1)).trans hw278_1), ((HB.out.cell (World.block_lt_of_cell? w _ hw279_0)).trans hw279_0), ((HB.out.cell (World.block_lt_of_cell? w _ hw279_1)).trans hw279_1), ((HB.out.cell (World.block_lt_of_cell? w _ hw281_0)).trans hw281_0), ((HB.out.cell (World.block_lt_of_cell? w _ hw281_1)).trans hw281_1)⟩ (fun hHeld => ?_)
         clear hK K
         refine norm_ (a' := ?_) ?_ ?_
         rotate_left
         ·show Act.put _ (some 34) _ = _
          simp only [Act.put, List.setIfInBounds_toArray, List.set_cons_zero, List.set_cons_succ, i64_w, i32_w]
          rfl
         refine pureS (i := 14) (N := some 35) (any_of HT_.out (by kernel_rfl)) ?_
         refine pureS (i := 15) (N := some 36) (any_of HT_.out (by kernel_rfl)) ?_
         refine pureS (i := 16) (N := some 37) (any_of HT_.out (by kernel_rfl)) ?_
         refine pureS (i := 17) (N := some 38) (any_of HT_.out (by kernel_rfl)) ?_
         refine pureS (i := 18) (N := some 39) (any_of HT_.out (by kernel_rfl)) ?_
         refine pureS (i := 19) (N := some 40) (any_of HT_.out (by kernel_rfl)) ?_
         refine pureS (i := 20) (N := some 41) (any_of HT_.out (by kernel_rfl)) ?_
         refine takeS (i := 21) (N := some 42) (take_ofW HT_.out HW_.out (by kernel_rfl)) hHeld ?_
         refine pureS (i := 22) (N := some 43) (any_of HT_.out (by kernel_rfl)) ?_
         refine pureS (i := 23) (N := some 44) (any_of HT_.out (by kernel_rfl)) ?_
         refine pureU (i := 24) (N := some 45) (any_of HT_.out (by kernel_rfl)) ?_
         refine pureU (i := 25) (N := some 46) (any_of HT_.out (by kernel_rfl)) ?_
         refine pureU (i := 26) (N := some 47) (any_of HT_.out (by kernel_rfl)) ?_
         refine pureU (i := 27) (N := some 48) (any_of HT_.out (by kernel_rfl)) ?_
         refine pureU (i := 28) (N := some 49) (any_of HT_.out (by kernel_rfl)) ?_
         refine pureU (i := 29) (N := some 50) (any_of HT_.out (by kernel_rfl)) ?_
         refine pureS (i := 30) (N := some 51) (any_of HT_.out (by kernel_rfl)) ?_
         refine pureS (i := 31) (N := some 52) (any_of HT_.out (by kernel_rfl)) ?_
         refine done_ (done_of HT_.out (by kernel_rfl)) ?_
         try go_wp2
         go_meet
         case rel => exact ⟨_, (false), (eW), H', ⟨by have := HJ3.out; first | omega | exact Nat.le_refl _⟩, ⟨(bP BK275.out)⟩, ⟨bW⟩⟩
        ·replace c16 := Bool.eq_false_iff.mpr c16
         subst c16
         have H1 : (impl_termEnd.j1 kj3 l1 a2 true a0_0 l0_1) = some r := by rw [if_neg (show ¬ (false = true) by decide)] at H; exact H
         clear H
         have H := H1
         clear H1
         have H' := Aside0.mk H
         clear H
         try go_wp2
         have n0_ := Aside0.mk (blk_drew BK275.out)
         have n1_ := Aside0.mk (below_drew1 HB.out)
         clear BK275 HB; have BK275 := n0_; have HB := n1_; clear n0_ n1_
         have p278 : 0 ≤ (a2 : Int) := ofD
         have q278 : a2 < (l1.length : Int) := ofD
         obtain ⟨ad278, e278, hx278_0, hx278_1⟩ := at_T84 HR1.out a2 p278 q278
         have hw278_1 := hx278_1
         have hw278_0 := hx278_0
         cases e278
         replace hx278_0 := (HB.out.cell (World.block_lt_of_cell? w _ hx278_0)).trans hx278_0
         replace hx278_1 := (HB.out.cell (World.block_lt_of_cell? w _ hx278_1)).trans hx278_1
         replace p278 := eq_true p278
         replace q278 := eq_true q278
         have p279 : 0 ≤ (a2 : Int) := ofD
         have q279 : a2 < (l1.length : Int) := ofD
         obtain ⟨ad279, e279, hx279_0, hx279_1⟩ := at_T84 HR1.out a2 p279 q279
         have hw279_1 := hx279_1
         have hw279_0 := hx279_0
         obtain rfl : ad278 = ad279 := (by injection e279)
         replace hx279_0 := (HB.out.cell (World.block_lt_of_cell? w _ hx279_0)).trans hx279_0
         replace hx279_1 := (HB.out.cell (World.block_lt_of_cell? w _ hx279_1)).trans hx279_1
         replace p279 := eq_true p279
         replace q279 := eq_true q279
         refine start_ (n := 32) (S := fun w' => w'.cell? ⟨gb275, 0, none⟩ = some (.int .i64 a0_0) ∧ w'.cell? ⟨gb275, 1, none⟩ = some (.slice A0_1 l0_1.length c0_1) ∧ w'.cell? (ad278.add ((a2).toNat * 2)) = some (.int .i64 ((rd_T84 l1 a2).f0)) ∧ w'.cell? ⟨(ad278.add ((a2).toNat * 2)).block, (ad278.add ((a2).toNat * 2)).off + 1, none⟩ = some (.int .i64 ((rd_T84 l1 a2).f1)) ∧ w'.cell? (ad278.add ((a2).toNat * 2)) = some (.int .i64 ((rd_T84 l1 a2).f0)) ∧ w'.cell? ⟨(ad278.add ((a2).toNat * 2)).block, (ad278.add ((a2).toNat * 2)).off + 1, none⟩ = some (.int .i64 ((rd_T84 l1 a2).f1))) (ds := []) #[false, false, false, false, false, false, false, false, false, false, false, false, false, false, false, false, false, false, false, false, false, false, false, false, false, false, false, false, false, false, false, false] (by kernel_rfl) rfl rfl ⟨(blk_cell BK275.out 0).trans rfl, (blk_cell BK275.out 1).trans rfl, ((HB.out.cell (World.block_lt_of_cell? w _ hw278_0)).trans hw278_0), ((HB.out.cell (World.block_lt_of_cell? w _ hw278_1)).trans hw278_1), ((HB.out.cell (World.block_lt_of_cell? w _ hw279_0)).trans hw279_0), ((HB.out.cell (World.block_lt_of_cell? w _ hw279_1)).trans hw279_1)⟩ (fun hHeld => ?_); refine with_tabW impl_termEnd.tab3 impl_termEnd.bits3 (fun HT_ HW_ => ?_)
         generalize wc.drew = w19 at BK275 HB hx278_0 hx278_1 hx279_0 hx279_1 hHeld ⊢
         refine pureS (i := 0) (N := some 21) (any_of HT_.out (by kernel_rfl)) ?_
         refine pureS (i := 1) (N := some 22) (any_of HT_.out (by kernel_rfl)) ?_
         refine pureS (i := 2) (N := some 23) (any_of HT_.out (by kernel_rfl)) ?_
         refine pureS (i := 3) (N := some 24) (any_of HT_.out (by kernel_rfl)) ?_
         refine takeS (i := 4) (N := some 25) (take_ofW HT_.out HW_.out (by kernel_rfl)) hHeld ?_
         refine pureS (i := 5) (N := some 26) (any_of HT_.out (by kernel_rfl)) ?_
         refine pureS (i := 6) (N := some 27) (any_of HT_.out (by kernel_rfl)) ?_
         refine pureS (i := 8) (N := some 29) (any_of HT_.out (by kernel_rfl)) ?_
         refine pureS (i := 9) (N := some 30) (any_of HT_.out (by kernel_rfl)) ?_
         refine pureS (i := 10) (N := some 31) (any_of HT_.out (by kernel_rfl)) ?_
         refine pureS (i := 11) (N := some 32) (any_of HT_.out (by kernel_rfl)) ?_
         refine takeS (i := 7) (N := some 28) (take_ofW HT_.out HW_.out (by kernel_rfl)) hHeld ?_
         refine takeS (i := 12) (N := some 33) (take_ofW HT_.out HW_.out (by kernel_rfl)) hHeld ?_
         refine one_ (i := 13) (N := some 34) #[true, true, true, true, true, true, true, true, true, true, true, true, true, true, false, false, false, false, false, false, false, false, false, false, false, false, false, false, false, false, false, false] rfl rfl (one_of HT_.out (by kernel_rfl)) (by decide) (fun K hK => ?_)
         refine goes_ Tryd.func145 (by kernel_rfl) rfl #[.agg #[.int .i64 a0_0, .slice A0_1 l0_1.length c0_1], .int .i64 ((rd_T84 l1 a2).f1)] (by rfl) rfl rfl (by (try simp only [List.map_toArray, List.map_cons, List.map_nil]); first | done | rfl | (simp only [List.length_drop, List.length_take]; rfl)) ?_
         with_reducible refine (impl_isLetter.calls a0_0 _ _ l0_1 ((rd_T84 l1 a2).f1) false _ ?side1 ?side2 A15.out).mono ?_
         (case side1 => exact cP (Kd.C_below HR0_1.out HB.out))
         (case side2 => exact HC0_1.out)
         rintro e w20 ⟨rfl, hb⟩
         refine ⟨_, rfl, ?_⟩
         have n0_ := Aside0.mk (blkB BK275.out hb)
         have n1_ := Aside0.mk (below_step (bW) hb)
         clear BK275 HB; have BK275 := n0_; have HB := n1_; clear n0_ n1_
         (try clear hb)
         (try clear hb2)
         (try clear hk)
         (try clear hi)
         refine hK.out _ _ ⟨(blk_cell BK275.out 0).trans rfl, (blk_cell BK275.out 1).trans rfl, ((HB.out.cell (World.block_lt_of_cell? w _ hw278_0)).trans hw278_0), ((HB.out.cell (World.block_lt_of_cell? w _ hw278_1)).trans hw278_1), ((HB.out.cell (World.block_lt_of_cell? w _ hw279_0)).trans hw279_0), ((HB.out.cell (World.block_lt_of_cell? w _ hw279_1)).trans hw279_1)⟩ (fun hHeld => ?_)
         clear hK K
         refine norm_ (a' := ?_) ?_ ?_
         rotate_left
         ·show Act.put _ (some 34) _ = _
          simp only [Act.put, List.setIfInBounds_toArray, List.set_cons_zero, List.set_cons_succ, i64_w, i32_w]
          rfl
         refine pureS (i := 14) (N := some 35) (any_of HT_.out (by kernel_rfl)) ?_
         refine pureS (i := 15) (N := some 36) (any_of HT_.out (by kernel_rfl)) ?_
         refine pureS (i := 16) (N := some 37) (any_of HT_.out (by kernel_rfl)) ?_
         refine pureU (i := 17) (N := some 38) (any_of HT_.out (by kernel_rfl)) ?_
         refine pureU (i := 18) (N := some 39) (any_of HT_.out (by kernel_rfl)) ?_
         refine pureU (i := 19) (N := some 40) (any_of HT_.out (by kernel_rfl)) ?_
         refine pureU (i := 20) (N := some 41) (any_of HT_.out (by kernel_rfl)) ?_
         refine pureU (i := 21) (N := some 42) (any_of HT_.out (by kernel_rfl)) ?_
         refine pureU (i := 22) (N := some 43) (any_of HT_.out (by kernel_rfl)) ?_
         refine pureU (i := 23) (N := some 44) (any_of HT_.out (by kernel_rfl)) ?_
         refine pureU (i := 24) (N := some 45) (any_of HT_.out (by kernel_rfl)) ?_
         refine pureU (i := 25) (N := some 46) (any_of HT_.out (by kernel_rfl)) ?_
         refine pureU (i := 26) (N := some 47) (any_of HT_.out (by kernel_rfl)) ?_
         refine pureU (i := 27) (N := some 48) (any_of HT_.out (by kernel_rfl)) ?_
         refine pureU (i := 28) (N := some 49) (any_of HT_.out (by kernel_rfl)) ?_
         refine pureU (i := 29) (N := some 50) (any_of HT_.out (by kernel_rfl)) ?_
         refine pureU (i := 30) (N := some 51) (any_of HT_.out (by kernel_rfl)) ?_
         refine pureS (i := 31) (N := some 52) (any_of HT_.out (by kernel_rfl)) ?_
         refine done_ (done_of HT_.out (by kernel_rfl)) ?_
         try go_wp2
         go_meet
         case rel => exact ⟨_, (true), (eW), H', ⟨by have := HJ3.out; first | omega | exact Nat.le_refl _⟩, ⟨(bP BK275.out)⟩, ⟨bW⟩⟩
       ·rw [if_neg c14] at H
        have c14b0 : (((rd_T84 l1 a2).f0) == 2) = false := beq_eq_false_iff_ne.mpr c14
        have c14b1 : (((rd_T84 l1 a2).f0) != 2) = true := bne_iff_ne.mpr c14
        have H' := Aside0.mk H
        clear H
        try go_wp2
        have n0_ := Aside0.mk (blk_drew BK275.out)
        have n1_ := Aside0.mk (below_drew1 HB.out)
        clear BK275 HB; have BK275 := n0_; have HB := n1_; clear n0_ n1_
        have p278 : 0 ≤ (a2 : Int) := ofD
        have q278 : a2 < (l1.length : Int) := ofD
        obtain ⟨ad278, e278, hx278_0, hx278_1⟩ := at_T84 HR1.out a2 p278 q278
        have hw278_1 := hx278_1
        have hw278_0 := hx278_0
        cases e278
        replace hx278_0 := (HB.out.cell (World.block_lt_of_cell? w _ hx278_0)).trans hx278_0
        replace hx278_1 := (HB.out.cell (World.block_lt_of_cell? w _ hx278_1)).trans hx278_1
        replace p278 := eq_true p278
        replace q278 := eq_true q278
        have p282 : 0 ≤ (a2 : Int) := ofD
        have q282 : a2 < (l1.length : Int) := ofD
        obtain ⟨ad282, e282, hx282_0, hx282_1⟩ := at_T84 HR1.out a2 p282 q282
        have hw282_1 := hx282_1
        have hw282_0 := hx282_0
        obtain rfl : ad278 = ad282 := (by injection e282)
        replace hx282_0 := (HB.out.cell (World.block_lt_of_cell? w _ hx282_0)).trans hx282_0
        replace hx282_1 := (HB.out.cell (World.block_lt_of_cell? w _ hx282_1)).trans hx282_1
        replace p282 := eq_true p282
        replace q282 := eq_true q282
        have p283 : 0 ≤ (a2 : Int) := ofD
        have q283 : a2 < (l1.length : Int) := ofD
        obtain ⟨ad283, e283, hx283_0, hx283_1⟩ := at_T84 HR1.out a2 p283 q283
        have hw283_1 := hx283_1
        have hw283_0 := hx283_0
        obtain rfl : ad278 = ad283 := (by injection e283)
        replace hx283_0 := (HB.out.cell (World.block_lt_of_cell? w _ hx283_0)).trans hx283_0
        replace hx283_1 := (HB.out.cell (World.block_lt_of_cell? w _ hx283_1)).trans hx283_1
        replace p283 := eq_true p283
        replace q283 := eq_true q283
        refine start_ (n := 32) (S := fun w' => w'.cell? (ad278.add ((a2).toNat * 2)) = some (.int .i64 ((rd_T84 l1 a2).f0)) ∧ w'.cell? ⟨(ad278.add ((a2).toNat * 2)).block, (ad278.add ((a2).toNat * 2)).off + 1, none⟩ = some (.int .i64 ((rd_T84 l1 a2).f1)) ∧ w'.cell? (ad278.add ((a2).toNat * 2)) = some (.int .i64 ((rd_T84 l1 a2).f0)) ∧ w'.cell? ⟨(ad278.add ((a2).toNat * 2)).block, (ad278.add ((a2).toNat * 2)).off + 1, none⟩ = some (.int .i64 ((rd_T84 l1 a2).f1)) ∧ w'.cell? (ad278.add ((a2).toNat * 2)) = some (.int .i64 ((rd_T84 l1 a2).f0)) ∧ w'.cell? ⟨(ad278.add ((a2).toNat * 2)).block, (ad278.add ((a2).toNat * 2)).off + 1, none⟩ = some (.int .i64 ((rd_T84 l1 a2).f1))) (ds := []) #[false, false, false, false, false, false, false, false, false, false, false, false, false, false, false, false, false, false, false, false, false, false, false, false, false, false, false, false, false, false, false, false] (by kernel_rfl) rfl rfl ⟨((HB.out.cell (World.block_lt_of_cell? w _ hw278_0)).trans hw278_0), ((HB.out.cell (World.block_lt_of_cell? w _ hw278_1)).trans hw278_1), ((HB.out.cell (World.block_lt_of_cell? w _ hw282_0)).trans hw282_0), ((HB.out.cell (World.block_lt_of_cell? w _ hw282_1)).trans hw282_1), ((HB.out.cell (World.block_lt_of_cell? w _ hw283_0)).trans hw283_0), ((HB.out.cell (World.block_lt_of_cell? w _ hw283_1)).trans hw283_1)⟩ (fun hHeld => ?_); refine with_tabW impl_termEnd.tab3 impl_termEnd.bits3 (fun HT_ HW_ => ?_)
        generalize wc.drew = w21 at BK275 HB hx278_0 hx278_1 hx282_0 hx282_1 hx283_0 hx283_1 hHeld ⊢
        refine pureS (i := 0) (N := some 21) (any_of HT_.out (by kernel_rfl)) ?_
        refine pureS (i := 1) (N := some 22) (any_of HT_.out (by kernel_rfl)) ?_
        refine pureS (i := 2) (N := some 23) (any_of HT_.out (by kernel_rfl)) ?_
        refine pureS (i := 3) (N := some 24) (any_of HT_.out (by kernel_rfl)) ?_
        refine takeS (i := 4) (N := some 25) (take_ofW HT_.out HW_.out (by kernel_rfl)) hHeld ?_
        refine pureS (i := 5) (N := some 26) (any_of HT_.out (by kernel_rfl)) ?_
        refine pureS (i := 6) (N := some 27) (any_of HT_.out (by kernel_rfl)) ?_
        refine pureU (i := 7) (N := some 28) (any_of HT_.out (by kernel_rfl)) ?_
        refine pureU (i := 8) (N := some 29) (any_of HT_.out (by kernel_rfl)) ?_
        refine pureU (i := 9) (N := some 30) (any_of HT_.out (by kernel_rfl)) ?_
        refine pureU (i := 10) (N := some 31) (any_of HT_.out (by kernel_rfl)) ?_
        refine pureU (i := 11) (N := some 32) (any_of HT_.out (by kernel_rfl)) ?_
        refine pureU (i := 12) (N := some 33) (any_of HT_.out (by kernel_rfl)) ?_
        refine pureU (i := 13) (N := some 34) (any_of HT_.out (by kernel_rfl)) ?_
        refine pureU (i := 14) (N := some 35) (any_of HT_.out (by kernel_rfl)) ?_
        refine pureS (i := 15) (N := some 36) (any_of HT_.out (by kernel_rfl)) ?_
        refine pureS (i := 16) (N := some 37) (any_of HT_.out (by kernel_rfl)) ?_
        refine pureS (i := 17) (N := some 38) (any_of HT_.out (by kernel_rfl)) ?_
        refine pureS (i := 18) (N := some 39) (any_of HT_.out (by kernel_rfl)) ?_
        refine pureS (i := 19) (N := some 40) (any_of HT_.out (by kernel_rfl)) ?_
        refine pureS (i := 20) (N := some 41) (any_of HT_.out (by kernel_rfl)) ?_
        refine takeS (i := 21) (N := some 42) (take_ofW HT_.out HW_.out (by kernel_rfl)) hHeld ?_
        refine pureS (i := 22) (N := some 43) (any_of HT_.out (by kernel_rfl)) ?_
        refine pureS (i := 23) (N := some 44) (any_of HT_.out (by kernel_rfl)) ?_
        refine pureS (i := 24) (N := some 45) (any_of HT_.out (by kernel_rfl)) ?_
        refine pureS (i := 25) (N := some 46) (any_of HT_.out (by kernel_rfl)) ?_
        refine pureS (i := 26) (N := some 47) (any_of HT_.out (by kernel_rfl)) ?_
        refine pureS (i := 27) (N := some 48) (any_of HT_.out (by kernel_rfl)) ?_
        refine takeS (i := 28) (N := some 49) (take_ofW HT_.out HW_.out (by kernel_rfl)) hHeld ?_
        refine pureS (i := 29) (N := some 50) (any_of HT_.out (by kernel_rfl)) ?_
        refine pureS (i := 30) (N := some 51) (any_of HT_.out (by kernel_rfl)) ?_
        refine pureS (i := 31) (N := some 52) (any_of HT_.out (by kernel_rfl)) ?_
        refine done_ (done_of HT_.out (by kernel_rfl)) ?_
        try go_wp2
        go_meet
        case rel => exact ⟨_, ((((rd_T84 l1 a2).f1) != 0)), (eW), H', ⟨by have := HJ3.out; first | omega | exact Nat.le_refl _⟩, ⟨(bP BK275.out)⟩, ⟨bW⟩⟩
      ·rw [if_neg c13] at H
       exact absurd H (by simp)
     ·rw [if_neg c12] at H
      exact absurd H (by simp)
    case rest =>
     clear HC11
     try clear c1
     try clear p2
     try clear q2
     try clear hx2
     try clear c12
     try clear c13
     try clear c14
     try clear c14b0
     try clear c14b1
     try clear c16
     try clear hx278_0
     try clear hx278_1
     try clear hx279_0
     try clear hx279_1
     try clear hx282_0
     try clear hx282_1
     try clear hx283_0
     try clear hx283_1
     try clear p278
     try clear p279
     try clear p282
     try clear p283
     try clear q278
     try clear q279
     try clear q282
     try clear q283
     obtain ⟨kq, x52_10, rfl, HA, HJ10, BK275, HB⟩ := hcut
     cases kq with
     | zero => exact absurd HA.out (by simp [impl_termEnd.j1])
     | succ kj10 =>
      have H := HA.out
      clear HA
      simp only [impl_termEnd.j1] at H
      by_cases c22 : x52_10 = true
      ·subst c22
       have H1 : (some (-1)) = some r := by rw [if_pos rfl] at H; exact H
       clear H
       have H := H1
       clear H1
       obtain rfl := Option.some.inj H
       go_wp2
       go_ret
       exact ⟨eW, bW⟩
      ·replace c22 := Bool.eq_false_iff.mpr c22
       subst c22
       have H1 : (if 0 ≤ a2 then (if a2 < (l1.length : Int) then ((impl_partsIn.f ((rd_T84 l1 a2).f0)).bind fun t285 => (impl_termEnd.l0 kj10 l1 (wrap64 (a2 + 1)) t285 0 a0_0 l0_1)) else (none)) else (none)) = some r := by rw [if_neg (show ¬ (false = true) by decide)] at H; exact H
       clear H
       have H := H1
       clear H1
       by_cases c23 : 0 ≤ a2
       ·rw [if_pos c23] at H
        have c23b0 : decide (0 ≤ a2) = true := decide_eq_true c23
        clear c23
        by_cases c24 : a2 < (l1.length : Int)
        ·rw [if_pos c24] at H
         have c24b0 : decide (a2 < (l1.length : Int)) = true := decide_eq_true c24
         clear c24
         replace H := Option.bind_eq_some_iff.mp H
         obtain ⟨t285, A250, H⟩ := H
         replace H : (impl_termEnd.l0 kj10 l1 (wrap64 (a2 + 1)) t285 0 a0_0 l0_1) = some r := H
         have A25 := Aside0.mk A250
         clear A250
         have H' := Aside0.mk H
         clear H
         have p284 : 0 ≤ (a2 : Int) := ofD
         have q284 : a2 < (l1.length : Int) := ofD
         obtain ⟨ad284, e284, hx284_0, hx284_1⟩ := at_T84 HR1.out a2 p284 q284
         cases e284
         replace hx284_0 := (HB.out.cell (World.block_lt_of_cell? w _ hx284_0)).trans hx284_0
         replace hx284_1 := (HB.out.cell (World.block_lt_of_cell? w _ hx284_1)).trans hx284_1
         replace p284 := eq_true p284
         replace q284 := eq_true q284
         go_wp2_with (first | ((with_reducible refine gate_callee (f := 146) rfl ?_); refine goesS (some 60) Tryd.func146 #[.int .i64 ((rd_T84 l1 a2).f0)] ?_; (with_reducible refine (impl_partsIn.calls ((rd_T84 l1 a2).f0) t285 _ A25.out).mono ?_); rintro e w' ⟨rfl, ⟨nd, rfl⟩⟩; refine ⟨_, rfl, ?_⟩))
         go_loopg [7, 61] kj10 (fun kq v7 v61 w' => ∃ (x7_3 : Int) (x61_3 : Int), v7 = .int .i64 x7_3 ∧ v61 = .int .i64 x61_3 ∧ Aside0 (impl_termEnd.l0 kq l1 x7_3 t285 x61_3 a0_0 l0_1 = some r) ∧ Aside0 (kq ≤ kj10) ∧ Aside0 (w'.heap[gb275]? = some (.cells #[.int .i64 a0_0, (.slice A0_1 l0_1.length c0_1)] 29 (0, 0))) ∧ Aside0 (Below w.heap.size w w'))
         case atStart => exact ⟨(wrap64 (a2 + 1)), (0), (eW), (eW), H', ⟨Nat.le_refl _⟩, ⟨(bP BK275.out)⟩, ⟨bW⟩⟩
         case round =>
          clear H'
          try clear c1
          try clear c2
          try clear p2
          try clear q2
          try clear hx2
          try clear p6
          try clear c12
          try clear c13
          try clear c14
          try clear c14b0
          try clear c14b1
          try clear c16
          try clear c22
          try clear c23
          try clear c23b0
          try clear c24
          try clear c24b0
          try clear hx278_0
          try clear hx278_1
          try clear hx279_0
          try clear hx279_1
          try clear hx282_0
          try clear hx282_1
          try clear hx283_0
          try clear hx283_1
          try clear hx284_0
          try clear hx284_1
          try clear p2
          try clear p278
          try clear p279
          try clear p282
          try clear p283
          try clear p284
          try clear q2
          try clear q278
          try clear q279
          try clear q282
          try clear q283
          try clear q284
          obtain ⟨x7_3, x61_3, rfl, rfl, HA, HK3, BK275, HB⟩ := hrel
          cases gk with
          | zero => exact absurd HA.out (by simp [impl_termEnd.l0])
          | succ k3 =>
           have H := HA.out
           clear HA
           simp only [impl_termEnd.l0] at H
           by_cases c26 : x61_3 < t285
           ·rw [if_pos c26] at H
            have c26b0 : decide (x61_3 < t285) = true := decide_eq_true c26
            clear c26
            replace H := Option.bind_eq_some_iff.mp H
            obtain ⟨t286, A270, H⟩ := H
            replace H : (if t286 < 0 then (some (-1)) else (impl_termEnd.l0 k3 l1 t286 t285 (wrap64 (x61_3 + 1)) a0_0 l0_1)) = some r := H
            have A27 := Aside0.mk A270
            clear A270
            by_cases c28 : t286 < 0
            ·rw [if_pos c28] at H
             have c28b0 : decide (t286 < 0) = true := decide_eq_true c28
             clear c28
             obtain rfl := Option.some.inj H
             have hcz29_0 : wr.cell? ⟨gb275, 0, none⟩ = some (.int .i64 a0_0) := (blk_cell BK275.out 0).trans rfl
             have hcz29_1 : wr.cell? ⟨gb275, 1, none⟩ = some (.slice A0_1 l0_1.length c0_1) := (blk_cell BK275.out 1).trans rfl
             have hfz29_0 := blk_frozen BK275.out 0
             have hfz29_1 := blk_frozen BK275.out 1
             go_wp2_with (first | ((with_reducible refine gate_callee (f := 99) rfl ?_); refine goesS (some 66) Tryd.func99 #[.agg #[.int .i64 a0_0, .slice A0_1 l0_1.length c0_1], .slice (some ad284) l1.length c1, .int .i64 x7_3] ?_; (with_reducible refine (ih k3 (by have := HJ3.out; have := HJ10.out; have := HK3.out; omega) a0_0 _ _ l0_1 _ _ l1 x7_3 t286 _ ?side1 ?side2 ?side3 ?side4 A27.out).mono ?_); (case side1 => exact cP (Kd.C_below HR0_1.out HB.out)); (case side2 => exact HC0_1.out); (case side3 => exact cP (Kd.C_below HR1.out HB.out)); (case side4 => exact HC1.out); rintro e w30 ⟨rfl, hb⟩; refine ⟨_, rfl, ?_⟩; have n0_ := Aside0.mk (blkB BK275.out hb); have n1_ := Aside0.mk (below_step (bW) hb); clear BK275 HB; have BK275 := n0_; have HB := n1_; clear n0_ n1_; (try clear hb); (try clear hb2); (try clear hk); (try clear hi)))
             go_ret
             exact ⟨eW, bW⟩
            ·rw [if_neg c28] at H
             have c28b0 : decide (t286 < 0) = false := decide_eq_false c28
             clear c28
             have H' := Aside0.mk H
             clear H
             have hcz31_0 : wr.cell? ⟨gb275, 0, none⟩ = some (.int .i64 a0_0) := (blk_cell BK275.out 0).trans rfl
             have hcz31_1 : wr.cell? ⟨gb275, 1, none⟩ = some (.slice A0_1 l0_1.length c0_1) := (blk_cell BK275.out 1).trans rfl
             have hfz31_0 := blk_frozen BK275.out 0
             have hfz31_1 := blk_frozen BK275.out 1
             go_wp2_with (first | ((with_reducible refine gate_callee (f := 99) rfl ?_); refine goesS (some 66) Tryd.func99 #[.agg #[.int .i64 a0_0, .slice A0_1 l0_1.length c0_1], .slice (some ad284) l1.length c1, .int .i64 x7_3] ?_; (with_reducible refine (ih k3 (by have := HJ3.out; have := HJ10.out; have := HK3.out; omega) a0_0 _ _ l0_1 _ _ l1 x7_3 t286 _ ?side1 ?side2 ?side3 ?side4 A27.out).mono ?_); (case side1 => exact cP (Kd.C_below HR0_1.out HB.out)); (case side2 => exact HC0_1.out); (case side3 => exact cP (Kd.C_below HR1.out HB.out)); (case side4 => exact HC1.out); rintro e w32 ⟨rfl, hb⟩; refine ⟨_, rfl, ?_⟩; have n0_ := Aside0.mk (blkB BK275.out hb); have n1_ := Aside0.mk (below_step (bW) hb); clear BK275 HB; have BK275 := n0_; have HB := n1_; clear n0_ n1_; (try clear hb); (try clear hb2); (try clear hk); (try clear hi)))
             go_roundg k3
             case measure => have := HJ3.out; have := HJ10.out; have := HK3.out; omega
             case rel => exact ⟨(t286), (wrap64 (x61_3 + 1)), (eW), (eW), H', ⟨by have := HJ3.out; have := HJ10.out; have := HK3.out; omega⟩, ⟨(bP BK275.out)⟩, ⟨bW⟩⟩
           ·rw [if_neg c26] at H
            have c26b0 : decide (x61_3 < t285) = false := decide_eq_false c26
            clear c26
            obtain rfl := Option.some.inj H
            go_wp2
            go_ret
            exact ⟨eW, bW⟩
        ·rw [if_neg c24] at H
         exact absurd H (by simp)
       ·rw [if_neg c23] at H
        exact absurd H (by simp)
/-! ### impl_IsExpression: function 51 -/
def impl_IsExpression.f (k : Nat) (a0_0 : Int) (l0_1 : List Int) (l1 : List (S84)) : Option (Bool) := (impl_IsAlphabet.f k a0_0 l0_1).bind fun t288 => (if t288 = true then (if (l1.length : Int) ≥ 1 then (if (l1.length : Int) ≤ 24 then ((impl_termEnd.f k a0_0 l0_1 l1 0).bind fun t289 => (some (t289 == (l1.length : Int)))) else (some false)) else (some false)) else (some false))
set_option maxHeartbeats 8000000 in
set_option maxRecDepth 100000 in
theorem impl_IsExpression.calls (k : Nat) (a0_0 : Int) (A0_1 : Option Addr) (c0_1 : Nat) (l0_1 : List Int) (A1 : Option Addr) (c1 : Nat) (l1 : List (S84)) (r : Bool) (w : World) (hr0_1 : Kd.C (Kd.int .i64) w A0_1 l0_1.length l0_1) (hc0_1 : l0_1.length ≤ c0_1) (hr1 : Kd.C k84 w A1 l1.length l1) (hc1 : l1.length ≤ c1) (h : impl_IsExpression.f k a0_0 l0_1 l1 = some r) (hTab : Tab w) :
  Calls Tryd.prog 51 #[.agg #[.int .i64 a0_0, .slice A0_1 l0_1.length c0_1], .slice A1 l1.length c1] w fun e w' => e = .returned (.bool r) ∧ Below w.heap.size w w' := by
 have HTab := Aside0.mk hTab
 clear hTab
 have hu29 := Tryd.underlying29
 have HR0_1 := Aside0.mk hr0_1
 have HC0_1 := Aside0.mk hc0_1
 clear hr0_1 hc0_1
 have HR1 := Aside0.mk hr1
 have HC1 := Aside0.mk hc1
 clear hr1 hc1
 have HB := Aside0.mk (Below.refl w.heap.size w)
 have H : ((impl_IsAlphabet.f k a0_0 l0_1).bind fun t288 => (if t288 = true then (if (l1.length : Int) ≥ 1 then (if (l1.length : Int) ≤ 24 then ((impl_termEnd.f k a0_0 l0_1 l1 0).bind fun t289 => (some (t289 == (l1.length : Int)))) else (some false)) else (some false)) else (some false))) = some r := h
 clear h
 replace H := Option.bind_eq_some_iff.mp H
 obtain ⟨t288, A30, H⟩ := H
 replace H : (if t288 = true then (if (l1.length : Int) ≥ 1 then (if (l1.length : Int) ≤ 24 then ((impl_termEnd.f k a0_0 l0_1 l1 0).bind fun t289 => (some (t289 == (l1.length : Int)))) else (some false)) else (some false)) else (some false)) = some r := H
 have A3 := Aside0.mk A30
 clear A30
 by_cases c4 : t288 = true
 ·subst c4
  have H1 : (if (l1.length : Int) ≥ 1 then (if (l1.length : Int) ≤ 24 then ((impl_termEnd.f k a0_0 l0_1 l1 0).bind fun t289 => (some (t289 == (l1.length : Int)))) else (some false)) else (some false)) = some r := by rw [if_pos rfl] at H; exact H
  clear H
  have H := H1
  clear H1
  by_cases c5 : (l1.length : Int) ≥ 1
  ·rw [if_pos c5] at H
   have c5b0 : decide (1 ≤ (l1.length : Int)) = true := decide_eq_true c5
   have c5b1 : decide (1 ≤ l1.length) = true := decide_eq_true (by omega)
   clear c5
   by_cases c6 : (l1.length : Int) ≤ 24
   ·rw [if_pos c6] at H
    have c6b0 : decide ((l1.length : Int) ≤ 24) = true := decide_eq_true c6
    have c6b1 : decide (l1.length ≤ 24) = true := decide_eq_true (by omega)
    clear c6
    replace H := Option.bind_eq_some_iff.mp H
    obtain ⟨t289, A70, H⟩ := H
    replace H : (some (t289 == (l1.length : Int))) = some r := H
    have A7 := Aside0.mk A70
    clear A70
    obtain rfl := Option.some.inj H
    go_enter Tryd.func51, Tryd.ntmps51
    go_wp2_with (first | ((with_reducible refine gate_dst (N := 2) rfl ?_); (try (refine gate_guard (by rfl) ?_; dsimp only)); refine boxS (N := 2) (cs := #[.int .i64 a0_0, .slice A0_1 l0_1.length c0_1]) (t := 29) ?_; intro gb287 hg w8 hbox hb; have n0_ := Aside0.mk (below_step (bW) hb); have n1_ := Aside0.mk (hbox); have n2_ := geW (w := w) hg; have n3_ := geW (w := w) hg; clear HB; have HB := n0_; have BK287 := n1_; have GW287 := n2_; have GE287 := n3_; clear n0_ n1_ n2_ n3_ hb hbox hg; obtain ⟨hcz9_0, hcz9_1⟩ := cells2 BK287.out; obtain ⟨hfz9_0, hfz9_1⟩ := frz2 BK287.out) | ((with_reducible refine gate_callee (f := 58) rfl ?_); refine goesS (some 6) Tryd.func58 #[.agg #[.int .i64 a0_0, .slice A0_1 l0_1.length c0_1]] ?_; (with_reducible refine (impl_IsAlphabet.calls k a0_0 _ _ l0_1 true _ ?side1 ?side2 A3.out (tabW HTab.out)).mono ?_); (case side1 => exact cP (Kd.C_below HR0_1.out HB.out)); (case side2 => exact HC0_1.out); rintro e w10 ⟨rfl, hb⟩; refine ⟨_, rfl, ?_⟩; have n0_ := Aside0.mk (blkB BK287.out hb); have n1_ := Aside0.mk (below_step (bW) hb); clear BK287 HB; have BK287 := n0_; have HB := n1_; clear n0_ n1_; (try clear hb); (try clear hb2); (try clear hk); (try clear hi); obtain ⟨hcz11_0, hcz11_1⟩ := cells2 BK287.out; obtain ⟨hfz11_0, hfz11_1⟩ := frz2 BK287.out) | (go_at_call 99; (with_reducible refine (impl_termEnd.calls k a0_0 _ _ l0_1 _ _ l1 0 t289 _ ?side1 ?side2 ?side3 ?side4 A7.out).mono ?_); (case side1 => exact cP (Kd.C_below HR0_1.out HB.out)); (case side2 => exact HC0_1.out); (case side3 => exact cP (Kd.C_below HR1.out HB.out)); (case side4 => exact HC1.out); rintro e w12 ⟨rfl, hb⟩; have n0_ := Aside0.mk (blkB BK287.out hb); have n1_ := Aside0.mk (below_step (bW) hb); clear BK287 HB; have BK287 := n0_; have HB := n1_; clear n0_ n1_; (try clear hb); (try clear hb2); (try clear hk); (try clear hi)))
    go_ret
    exact ⟨eW, bW⟩
   ·rw [if_neg c6] at H
    have c6b0 : decide ((l1.length : Int) ≤ 24) = false := decide_eq_false c6
    have c6b1 : decide (l1.length ≤ 24) = false := decide_eq_false (by omega)
    clear c6
    obtain rfl := Option.some.inj H
    go_enter Tryd.func51, Tryd.ntmps51
    go_wp2_with (first | ((with_reducible refine gate_dst (N := 2) rfl ?_); (try (refine gate_guard (by rfl) ?_; dsimp only)); refine boxS (N := 2) (cs := #[.int .i64 a0_0, .slice A0_1 l0_1.length c0_1]) (t := 29) ?_; intro gb287 hg w13 hbox hb; have n0_ := Aside0.mk (below_step (bW) hb); have n1_ := Aside0.mk (hbox); have n2_ := geW (w := w) hg; have n3_ := geW (w := w) hg; clear HB; have HB := n0_; have BK287 := n1_; have GW287 := n2_; have GE287 := n3_; clear n0_ n1_ n2_ n3_ hb hbox hg; obtain ⟨hcz14_0, hcz14_1⟩ := cells2 BK287.out; obtain ⟨hfz14_0, hfz14_1⟩ := frz2 BK287.out) | ((with_reducible refine gate_callee (f := 58) rfl ?_); refine goesS (some 6) Tryd.func58 #[.agg #[.int .i64 a0_0, .slice A0_1 l0_1.length c0_1]] ?_; (with_reducible refine (impl_IsAlphabet.calls k a0_0 _ _ l0_1 true _ ?side1 ?side2 A3.out (tabW HTab.out)).mono ?_); (case side1 => exact cP (Kd.C_below HR0_1.out HB.out)); (case side2 => exact HC0_1.out); rintro e w15 ⟨rfl, hb⟩; refine ⟨_, rfl, ?_⟩; have n0_ := Aside0.mk (blkB BK287.out hb); have n1_ := Aside0.mk (below_step (bW) hb); clear BK287 HB; have BK287 := n0_; have HB := n1_; clear n0_ n1_; (try clear hb); (try clear hb2); (try clear hk); (try clear hi)))
    go_ret
    exact ⟨eW, bW⟩
  ·rw [if_neg c5] at H
   have c5b0 : decide (1 ≤ (l1.length : Int)) = false := decide_eq_false c5
   have c5b1 : decide (1 ≤ l1.length) = false := decide_eq_false (by omega)
   clear c5
   obtain rfl := Option.some.inj H
   go_enter Tryd.func51, Tryd.ntmps51
   go_wp2_with (first | ((with_reducible refine gate_dst (N := 2) rfl ?_); (try (refine gate_guard (by rfl) ?_; dsimp only)); refine boxS (N := 2) (cs := #[.int .i64 a0_0, .slice A0_1 l0_1.length c0_1]) (t := 29) ?_; intro gb287 hg w16 hbox hb; have n0_ := Aside0.mk (below_step (bW) hb); have n1_ := Aside0.mk (hbox); have n2_ := geW (w := w) hg; have n3_ := geW (w := w) hg; clear HB; have HB := n0_; have BK287 := n1_; have GW287 := n2_; have GE287 := n3_; clear n0_ n1_ n2_ n3_ hb hbox hg; obtain ⟨hcz17_0, hcz17_1⟩ := cells2 BK287.out; obtain ⟨hfz17_0, hfz17_1⟩ := frz2 BK287.out) | ((with_reducible refine gate_callee (f := 58) rfl ?_); refine goesS (some 6) Tryd.func58 #[.agg #[.int .i64 a0_0, .slice A0_1 l0_1.length c0_1]] ?_; (with_reducible refine (impl_IsAlphabet.calls k a0_0 _ _ l0_1 true _ ?side1 ?side2 A3.out (tabW HTab.out)).mono ?_); (case side1 => exact cP (Kd.C_below HR0_1.out HB.out)); (case side2 => exact HC0_1.out); rintro e w18 ⟨rfl, hb⟩; refine ⟨_, rfl, ?_⟩; have n0_ := Aside0.mk (blkB BK287.out hb); have n1_ := Aside0.mk (below_step (bW) hb); clear BK287 HB; have BK287 := n0_; have HB := n1_; clear n0_ n1_; (try clear hb); (try clear hb2); (try clear hk); (try clear hi)))
   go_ret
   exact ⟨eW, bW⟩
 ·replace c4 := Bool.eq_false_iff.mpr c4
  subst c4
  have H1 : (some false) = some r := by rw [if_neg (show ¬ (false = true) by decide)] at H; exact H
  clear H
  have H := H1
  clear H1
  obtain rfl := Option.some.inj H
  go_enter Tryd.func51, Tryd.ntmps51
  go_wp2_with (first | ((with_reducible refine gate_dst (N := 2) rfl ?_); (try (refine gate_guard (by rfl) ?_; dsimp only)); refine boxS (N := 2) (cs := #[.int .i64 a0_0, .slice A0_1 l0_1.length c0_1]) (t := 29) ?_; intro gb287 hg w19 hbox hb; have n0_ := Aside0.mk (below_step (bW) hb); have n1_ := Aside0.mk (hbox); have n2_ := geW (w := w) hg; have n3_ := geW (w := w) hg; clear HB; have HB := n0_; have BK287 := n1_; have GW287 := n2_; have GE287 := n3_; clear n0_ n1_ n2_ n3_ hb hbox hg; obtain ⟨hcz20_0, hcz20_1⟩ := cells2 BK287.out; obtain ⟨hfz20_0, hfz20_1⟩ := frz2 BK287.out) | ((with_reducible refine gate_callee (f := 58) rfl ?_); refine goesS (some 6) Tryd.func58 #[.agg #[.int .i64 a0_0, .slice A0_1 l0_1.length c0_1]] ?_; (with_reducible refine (impl_IsAlphabet.calls k a0_0 _ _ l0_1 false _ ?side1 ?side2 A3.out (tabW HTab.out)).mono ?_); (case side1 => exact cP (Kd.C_below HR0_1.out HB.out)); (case side2 => exact HC0_1.out); rintro e w21 ⟨rfl, hb⟩; refine ⟨_, rfl, ?_⟩; have n0_ := Aside0.mk (blkB BK287.out hb); have n1_ := Aside0.mk (below_step (bW) hb); clear BK287 HB; have BK287 := n0_; have HB := n1_; clear n0_ n1_; (try clear hb); (try clear hb2); (try clear hk); (try clear hi)))
  go_ret
  exact ⟨eW, bW⟩
end Go.Proofs.YthbaocejgjpfoaaDoor.P
end M0
