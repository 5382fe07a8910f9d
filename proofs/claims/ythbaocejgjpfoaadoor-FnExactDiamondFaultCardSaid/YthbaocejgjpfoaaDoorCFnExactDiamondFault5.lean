import Derived.ArgAppend
import Derived.Below
import Derived.BigQuiet
import Derived.Deep.AppendLies
import Derived.Deep.CutBlock
import Derived.Deep.DeepCutAuto
import Derived.Deep.Draws
import Derived.Deep.LoopGhost
import Derived.Deep.OwnRows
import Derived.Deep.QuietTactic
import Derived.Deep.RegionHeld3
import Derived.KernelRfl
import Derived.Laws.BitsLemmas
import Derived.Laws.BytesArg
import Derived.Laws.IdiomCopy
import Derived.Laws.MakeOwn
import Derived.Laws.OwnMore
import Derived.Laws.Rows
import Derived.Laws.Slices
import Derived.Laws.StructEq
import Derived.Lib.AppendStr
import Derived.Lib.ConvBytes
import Derived.Lib.SliceRun
import Derived.Maps.AppendAt
import Derived.OrdersHeld
import Derived.OwnWalk
import Derived.RowKit
import Derived.RowKit3
import Derived.Shelf.Abstract
import Derived.Shelf.Spec.TrailingZeros
import Derived.Tactics
import Derived.Test.YthbaocejgjpfoaaDoorProg
import Derived.WalkKit
import Derived.WideLaws
import Derived.Test.YthbaocejgjpfoaaDoorCFnExactDiamondFault2
import Derived.Test.YthbaocejgjpfoaaDoorCFnExactDiamondFault4
section M0
namespace Go.Proofs.YthbaocejgjpfoaaDoor.P
open Go.RowKit Go.Proofs.YthbaocejgjpfoaaDoor.Sh Go.Proofs.YthbaocejgjpfoaaDoorW.PrintWords Go.Proofs.YthbaocejgjpfoaaDoorW.PrintLast Go.Proofs.YthbaocejgjpfoaaDoorW.PrintMore
attribute [local go_sem] max2_int min2_int max_two min_two max_three min_three max_four min_four   -- for this text's walks alone
set_option linter.unusedVariables false
set_option linter.unusedSimpArgs false
/-! ### spec_l11Fault: function 67 -/
mutual
def spec_l11Fault.l0 : Nat → Int → Int → List Int → Int → Int → Int → List (List Int) → Option (List Int)
 | 0, _, _, _, _, _, _, _ => none
 | k + 1, x5, x386000, x386001, x387000, x387001, x387002, x387003 => (spec_l11States.f x387000 x387001 x387002 x387003).bind fun t387 => (if x5 < t387 then (spec_l11Fault.l1 k x5 0 x386000 x386001 x387000 x387001 x387002 x387003) else (some ([] : List Int)))
def spec_l11Fault.l1 : Nat → Int → Int → Int → List Int → Int → Int → Int → List (List Int) → Option (List Int)
 | 0, _, _, _, _, _, _, _, _ => none
 | k + 1, x5, x6, x386000, x386001, x387000, x387001, x387002, x387003 => if x6 < x387000 then (spec_l11Fault.l2 k x5 x6 (wrap64 (x6 + 1)) x386000 x386001 x387000 x387001 x387002 x387003) else (spec_l11Fault.l0 k (wrap64 (x5 + 1)) x386000 x386001 x387000 x387001 x387002 x387003)
def spec_l11Fault.l2 : Nat → Int → Int → Int → Int → List Int → Int → Int → Int → List (List Int) → Option (List Int)
 | 0, _, _, _, _, _, _, _, _, _ => none
 | k + 1, x5, x6, x7, x386000, x386001, x387000, x387001, x387002, x387003 => if x7 < x387000 then ((spec_l02Dep.f x386000 x386001 x6 x7).bind fun t388 => (if t388 = true then (spec_l11Fault.l2 k x5 x6 (wrap64 (x7 + 1)) x386000 x386001 x387000 x387001 x387002 x387003) else ((spec_l11Read.f k x387000 x387001 x387002 x387003 x5 (([x6, x7] : List Int))).bind fun t392 => ((spec_l11Read.f k x387000 x387001 x387002 x387003 x5 (([x7, x6] : List Int))).bind fun t396 => (if t392 = t396 then (spec_l11Fault.l2 k x5 x6 (wrap64 (x7 + 1)) x386000 x386001 x387000 x387001 x387002 x387003) else (some (([x5, x6, x7] : List Int)))))))) else (spec_l11Fault.l1 k x5 (wrap64 (x6 + 1)) x386000 x386001 x387000 x387001 x387002 x387003)
end
def spec_l11Fault.f (k : Nat) (a0_0 : Int) (l0_1 : List Int) (a1_0 : Int) (a1_1 : Int) (a1_2 : Int) (l1_3 : List (List Int)) : Option (List Int) := spec_l11Fault.l0 k 0 a0_0 l0_1 a1_0 a1_1 a1_2 l1_3
def spec_l11Fault.T10 : Bool × List (List Nat × List Nat) := (true, [([], []), ([], []), ([], []), ([0, 1, 2], [0, 1, 2]), ([3], [3]), ([4, 3], [4]), ([5], [5]), ([5], [5]), ([5], [5]), ([5], [5]), ([8, 9, 5], [5, 8, 9]), ([6, 7, 10, 5, 5], [5, 6, 7, 10]), ([5], [5]), ([5], [5]), ([5], [5]), ([5], [5]), ([14, 15, 5], [5, 14, 15]), ([12, 13, 16, 11, 5], [5, 12, 13, 16]), ([11, 17, 5], [5, 11, 17]), ([5, 18], [5, 18])])
def spec_l11Fault.B10 : List Nat := [0, 0, 0, 7, 15, 31, 63, 63, 63, 63, 831, 2047, 63, 63, 63, 63, 49215, 131071, 262143, 524287]
theorem spec_l11Fault.tab10 : rtab .any (opsOf Tryd.f67 10) = spec_l11Fault.T10 := by kernel_rfl
theorem spec_l11Fault.bits10 : waitsOk spec_l11Fault.T10.2 spec_l11Fault.B10 = true := by kernel_rfl
set_option maxHeartbeats 8000000 in
set_option maxRecDepth 100000 in
theorem spec_l11Fault.calls (k : Nat) (a0_0 : Int) (A0_1 : Option Addr) (c0_1 : Nat) (l0_1 : List Int) (a1_0 : Int) (a1_1 : Int) (a1_2 : Int) (A1_3 : Option Addr) (c1_3 : Nat) (l1_3 : List (List Int)) (r : List Int) (w : World) (hr0_1 : Kd.C (Kd.int .i64) w A0_1 l0_1.length l0_1) (hc0_1 : l0_1.length ≤ c0_1) (hr1_3 : Kd.C (Kd.slice 2 (Kd.int .i64)) w A1_3 l1_3.length l1_3) (hc1_3 : l1_3.length ≤ c1_3) (h : spec_l11Fault.f k a0_0 l0_1 a1_0 a1_1 a1_2 l1_3 = some r) :
  Calls Tryd.prog 67 #[.agg #[.int .i64 a0_0, .slice A0_1 l0_1.length c0_1], .agg #[.int .i64 a1_0, .int .i64 a1_1, .int .i64 a1_2, .slice A1_3 l1_3.length c1_3]] w fun e w' => ∃ v0_ : Value, e = .returned (v0_) ∧ Kd.R (Kd.int .i64) 2 w' w.heap.size (fun _ => True) v0_ r ∧ Below w.heap.size w w' := by
 have hu29 := Tryd.underlying29
 have hu48 := Tryd.underlying48
 have HR0_1 := Aside0.mk hr0_1
 have HC0_1 := Aside0.mk hc0_1
 clear hr0_1 hc0_1
 have HR1_3 := Aside0.mk hr1_3
 have HC1_3 := Aside0.mk hc1_3
 clear hr1_3 hc1_3
 have HB := Aside0.mk (Below.refl w.heap.size w)
 have H : (spec_l11Fault.l0 k 0 a0_0 l0_1 a1_0 a1_1 a1_2 l1_3) = some r := h
 clear h
 have H' := Aside0.mk H
 clear H
 go_enter Tryd.func67, Tryd.ntmps67
 go_wp2_with (first | ((with_reducible refine gate_dst (N := 2) rfl ?_); (try (refine gate_guard (by rfl) ?_; dsimp only)); refine boxS (N := 2) (cs := #[.int .i64 a0_0, .slice A0_1 l0_1.length c0_1]) (t := 29) ?_; intro gb385 hg w3 hbox hb; have n0_ := Aside0.mk (below_step (bW) hb); have n1_ := Aside0.mk (hbox); have n2_ := geW (w := w) hg; have n3_ := geW (w := w) hg; clear HB; have HB := n0_; have BK385 := n1_; have GW385 := n2_; have GE385 := n3_; clear n0_ n1_ n2_ n3_ hb hbox hg) | ((with_reducible refine gate_dst (N := 3) rfl ?_); (try (refine gate_guard (by rfl) ?_; dsimp only)); refine boxS (N := 3) (cs := #[.int .i64 a1_0, .int .i64 a1_1, .int .i64 a1_2, .slice A1_3 l1_3.length c1_3]) (t := 48) ?_; intro gb386 hg w4 hbox hb; have n0_ := Aside0.mk (blkB BK385.out hb); have n1_ := Aside0.mk (below_step (bW) hb); have n2_ := Aside0.mk (hbox); have n3_ := geW (w := w) hg; have n4_ := geW (w := w) hg; have n5_ := Aside0.mk ((by rw [hg]; exact Nat.ne_of_lt (blk_lt (g := gb385) (o := .cells #[.int .i64 a0_0, .slice A0_1 l0_1.length c0_1] 29 (0, 0)) (bP BK385.out)) : gb385 ≠ gb386)); have n6_ := Aside0.mk ((by rw [hg]; exact Nat.ne_of_gt (blk_lt (g := gb385) (o := .cells #[.int .i64 a0_0, .slice A0_1 l0_1.length c0_1] 29 (0, 0)) (bP BK385.out)) : gb386 ≠ gb385)); clear BK385 HB; have BK385 := n0_; have HB := n1_; have BK386 := n2_; have GW386 := n3_; have GE386 := n4_; have NB385_386 := n5_; have NB386_385 := n6_; clear n0_ n1_ n2_ n3_ n4_ n5_ n6_ hb hbox hg))
 go_loopg [5] k (fun kq v5 w' => ∃ (x5_1 : Int), v5 = .int .i64 x5_1 ∧ Aside0 (spec_l11Fault.l0 kq x5_1 a0_0 l0_1 a1_0 a1_1 a1_2 l1_3 = some r) ∧ Aside0 (kq ≤ k) ∧ Aside0 (w'.heap[gb385]? = some (.cells #[.int .i64 a0_0, (.slice A0_1 l0_1.length c0_1)] 29 (0, 0))) ∧ Aside0 (w'.heap[gb386]? = some (.cells #[.int .i64 a1_0, .int .i64 a1_1, .int .i64 a1_2, (.slice A1_3 l1_3.length c1_3)] 48 (0, 0))) ∧ Aside0 (Below w.heap.size w w'))
 case atStart => exact ⟨(0), (eW), H', ⟨Nat.le_refl _⟩, ⟨(bP BK385.out)⟩, ⟨(bP BK386.out)⟩, ⟨bW⟩⟩
 case round =>
  clear H'
  try clear c1
  try clear p2
  obtain ⟨x5_1, rfl, HA, HK1, BK385, BK386, HB⟩ := hrel
  cases gk with
  | zero => exact absurd HA.out (by simp [spec_l11Fault.l0])
  | succ k1 =>
   have H := HA.out
   clear HA
   simp only [spec_l11Fault.l0] at H
   replace H := Option.bind_eq_some_iff.mp H
   obtain ⟨t387, A50, H⟩ := H
   replace H : (if x5_1 < t387 then (spec_l11Fault.l1 k1 x5_1 0 a0_0 l0_1 a1_0 a1_1 a1_2 l1_3) else (some ([] : List Int))) = some r := H
   have A5 := Aside0.mk A50
   clear A50
   by_cases c6 : x5_1 < t387
   ·rw [if_pos c6] at H
    have c6b0 : decide (x5_1 < t387) = true := decide_eq_true c6
    clear c6
    have H' := Aside0.mk H
    clear H
    have hnb7 := NB386_385.out
    have hnc7 := NB385_386.out
    have hcz8_0 : wr.cell? ⟨gb386, 0, none⟩ = some (.int .i64 a1_0) := (blk_cell BK386.out 0).trans rfl
    have hcz8_1 : wr.cell? ⟨gb386, 1, none⟩ = some (.int .i64 a1_1) := (blk_cell BK386.out 1).trans rfl
    have hcz8_2 : wr.cell? ⟨gb386, 2, none⟩ = some (.int .i64 a1_2) := (blk_cell BK386.out 2).trans rfl
    have hcz8_3 : wr.cell? ⟨gb386, 3, none⟩ = some (.slice A1_3 l1_3.length c1_3) := (blk_cell BK386.out 3).trans rfl
    have hfz8_0 := blk_frozen BK386.out 0
    have hfz8_1 := blk_frozen BK386.out 1
    have hfz8_2 := blk_frozen BK386.out 2
    have hfz8_3 := blk_frozen BK386.out 3
    go_wp2_with (first | ((with_reducible refine gate_callee (f := 101) rfl ?_); refine goesS (some 10) Tryd.func101 #[.agg #[.int .i64 a1_0, .int .i64 a1_1, .int .i64 a1_2, .slice A1_3 l1_3.length c1_3]] ?_; (with_reducible refine (spec_l11States.calls a1_0 a1_1 a1_2 _ _ l1_3 t387 _ ?side1 ?side2 A5.out).mono ?_); (case side1 => exact cP (Kd.C_below HR1_3.out HB.out)); (case side2 => exact HC1_3.out); rintro e w9 ⟨rfl, hb⟩; refine ⟨_, rfl, ?_⟩; have n0_ := Aside0.mk (blkB BK385.out hb); have n1_ := Aside0.mk (blkB BK386.out hb); have n2_ := Aside0.mk (below_step (bW) hb); clear BK385 BK386 HB; have BK385 := n0_; have BK386 := n1_; have HB := n2_; clear n0_ n1_ n2_; (try clear hb); (try clear hb2); (try clear hk); (try clear hi)))
    go_loopg [6] k1 (fun kq v6 w' => ∃ (x6_2 : Int), v6 = .int .i64 x6_2 ∧ Aside0 (spec_l11Fault.l1 kq x5_1 x6_2 a0_0 l0_1 a1_0 a1_1 a1_2 l1_3 = some r) ∧ Aside0 (kq ≤ k1) ∧ Aside0 (w'.heap[gb385]? = some (.cells #[.int .i64 a0_0, (.slice A0_1 l0_1.length c0_1)] 29 (0, 0))) ∧ Aside0 (w'.heap[gb386]? = some (.cells #[.int .i64 a1_0, .int .i64 a1_1, .int .i64 a1_2, (.slice A1_3 l1_3.length c1_3)] 48 (0, 0))) ∧ Aside0 (Below w.heap.size w w'))
    case atStart => exact ⟨(0), (eW), H', ⟨Nat.le_refl _⟩, ⟨(bP BK385.out)⟩, ⟨(bP BK386.out)⟩, ⟨bW⟩⟩
    case round =>
     clear H'
     try clear c1
     try clear p2
     try clear c6
     try clear c6b0
     try clear c7
     try clear hcz8_0
     try clear hcz8_1
     try clear hcz8_2
     try clear hcz8_3
     try clear hfz8_0
     try clear hfz8_1
     try clear hfz8_2
     try clear hfz8_3
     try clear p2
     obtain ⟨x6_2, rfl, HA, HK2, BK385, BK386, HB⟩ := hrel
     cases gk with
     | zero => exact absurd HA.out (by simp [spec_l11Fault.l1])
     | succ k2 =>
      have H := HA.out
      clear HA
      simp only [spec_l11Fault.l1] at H
      by_cases c10 : x6_2 < a1_0
      ·rw [if_pos c10] at H
       have c10b0 : decide (x6_2 < a1_0) = true := decide_eq_true c10
       clear c10
       have H' := Aside0.mk H
       clear H
       have hnb11 := NB386_385.out
       have hnc11 := NB385_386.out
       have hcz12_0 : wr.cell? ⟨gb386, 0, none⟩ = some (.int .i64 a1_0) := (blk_cell BK386.out 0).trans rfl
       have hcz12_1 : wr.cell? ⟨gb386, 1, none⟩ = some (.int .i64 a1_1) := (blk_cell BK386.out 1).trans rfl
       have hcz12_2 : wr.cell? ⟨gb386, 2, none⟩ = some (.int .i64 a1_2) := (blk_cell BK386.out 2).trans rfl
       have hcz12_3 : wr.cell? ⟨gb386, 3, none⟩ = some (.slice A1_3 l1_3.length c1_3) := (blk_cell BK386.out 3).trans rfl
       have hfz12_0 := blk_frozen BK386.out 0
       have hfz12_1 := blk_frozen BK386.out 1
       have hfz12_2 := blk_frozen BK386.out 2
       have hfz12_3 := blk_frozen BK386.out 3
       go_wp2
       go_loopg [7] k2 (fun kq v7 w' => ∃ (x7_3 : Int), v7 = .int .i64 x7_3 ∧ Aside0 (spec_l11Fault.l2 kq x5_1 x6_2 x7_3 a0_0 l0_1 a1_0 a1_1 a1_2 l1_3 = some r) ∧ Aside0 (kq ≤ k2) ∧ Aside0 (w'.heap[gb385]? = some (.cells #[.int .i64 a0_0, (.slice A0_1 l0_1.length c0_1)] 29 (0, 0))) ∧ Aside0 (w'.heap[gb386]? = some (.cells #[.int .i64 a1_0, .int .i64 a1_1, .int .i64 a1_2, (.slice A1_3 l1_3.length c1_3)] 48 (0, 0))) ∧ Aside0 (Below w.heap.size w w'))
       case atStart => exact ⟨(wrap64 (x6_2 + 1)), (eW), H', ⟨Nat.le_refl _⟩, ⟨(bP BK385.out)⟩, ⟨(bP BK386.out)⟩, ⟨bW⟩⟩
       case round =>
        clear H'
        try clear c1
        try clear p2
        try clear c6
        try clear c6b0
        try clear p6
        try clear c7
        try clear c10
        try clear c10b0
        try clear c11
        try clear hcz12_0
        try clear hcz12_1
        try clear hcz12_2
        try clear hcz12_3
        try clear hcz8_0
        try clear hcz8_1
        try clear hcz8_2
        try clear hcz8_3
        try clear hfz12_0
        try clear hfz12_1
        try clear hfz12_2
        try clear hfz12_3
        try clear hfz8_0
        try clear hfz8_1
        try clear hfz8_2
        try clear hfz8_3
        try clear p2
        obtain ⟨x7_3, rfl, HA, HK3, BK385, BK386, HB⟩ := hrel
        cases gk with
        | zero => exact absurd HA.out (by simp [spec_l11Fault.l2])
        | succ k3 =>
         have H := HA.out
         clear HA
         simp only [spec_l11Fault.l2] at H
         by_cases c13 : x7_3 < a1_0
         ·rw [if_pos c13] at H
          have c13b0 : decide (x7_3 < a1_0) = true := decide_eq_true c13
          clear c13
          replace H := Option.bind_eq_some_iff.mp H
          obtain ⟨t388, A140, H⟩ := H
          replace H : (if t388 = true then (spec_l11Fault.l2 k3 x5_1 x6_2 (wrap64 (x7_3 + 1)) a0_0 l0_1 a1_0 a1_1 a1_2 l1_3) else ((spec_l11Read.f k3 a1_0 a1_1 a1_2 l1_3 x5_1 (([x6_2, x7_3] : List Int))).bind fun t392 => ((spec_l11Read.f k3 a1_0 a1_1 a1_2 l1_3 x5_1 (([x7_3, x6_2] : List Int))).bind fun t396 => (if t392 = t396 then (spec_l11Fault.l2 k3 x5_1 x6_2 (wrap64 (x7_3 + 1)) a0_0 l0_1 a1_0 a1_1 a1_2 l1_3) else (some (([x5_1, x6_2, x7_3] : List Int))))))) = some r := H
          have A14 := Aside0.mk A140
          clear A140
          by_cases c15 : t388 = true
          ·subst c15
           have H1 : (spec_l11Fault.l2 k3 x5_1 x6_2 (wrap64 (x7_3 + 1)) a0_0 l0_1 a1_0 a1_1 a1_2 l1_3) = some r := by rw [if_pos rfl] at H; exact H
           clear H
           have H := H1
           clear H1
           have H' := Aside0.mk H
           clear H
           have hnb16 := NB386_385.out
           have hnc16 := NB385_386.out
           have hcz17_0 : wr.cell? ⟨gb386, 0, none⟩ = some (.int .i64 a1_0) := (blk_cell BK386.out 0).trans rfl
           have hcz17_1 : wr.cell? ⟨gb386, 1, none⟩ = some (.int .i64 a1_1) := (blk_cell BK386.out 1).trans rfl
           have hcz17_2 : wr.cell? ⟨gb386, 2, none⟩ = some (.int .i64 a1_2) := (blk_cell BK386.out 2).trans rfl
           have hcz17_3 : wr.cell? ⟨gb386, 3, none⟩ = some (.slice A1_3 l1_3.length c1_3) := (blk_cell BK386.out 3).trans rfl
           have hfz17_0 := blk_frozen BK386.out 0
           have hfz17_1 := blk_frozen BK386.out 1
           have hfz17_2 := blk_frozen BK386.out 2
           have hfz17_3 := blk_frozen BK386.out 3
           try go_wp2
           have n0_ := Aside0.mk (blk_drew BK385.out)
           have n1_ := Aside0.mk (blk_drew BK386.out)
           have n2_ := Aside0.mk (below_drew1 HB.out)
           clear BK385 BK386 HB; have BK385 := n0_; have BK386 := n1_; have HB := n2_; clear n0_ n1_ n2_
           refine start_ (n := 20) (S := fun w' => w'.cell? ⟨gb385, 0, none⟩ = some (.int .i64 a0_0) ∧ w'.cell? ⟨gb385, 1, none⟩ = some (.slice A0_1 l0_1.length c0_1)) (ds := []) #[false, false, false, false, false, false, false, false, false, false, false, false, false, false, false, false, false, false, false, false] (by kernel_rfl) rfl rfl ⟨(blk_cell BK385.out 0).trans rfl, (blk_cell BK385.out 1).trans rfl⟩ (fun hHeld => ?_); refine with_tabW spec_l11Fault.tab10 spec_l11Fault.bits10 (fun HT_ HW_ => ?_)
           generalize wr.drew = w18 at BK385 BK386 HB hHeld ⊢
           refine pureS (i := 1) (N := some 29) (any_of HT_.out (by kernel_rfl)) ?_
           refine pureS (i := 2) (N := some 30) (any_of HT_.out (by kernel_rfl)) ?_
           refine takeS (i := 0) (N := some 28) (take_ofW HT_.out HW_.out (by kernel_rfl)) hHeld ?_
           refine one_ (i := 3) (N := some 31) #[true, true, true, true, false, false, false, false, false, false, false, false, false, false, false, false, false, false, false, false] rfl rfl (one_of HT_.out (by kernel_rfl)) (by decide) (fun K hK => ?_)
           refine goes_ Tryd.func117 (by kernel_rfl) rfl #[.agg #[.int .i64 a0_0, .slice A0_1 l0_1.length c0_1], .int .i64 x6_2, .int .i64 x7_3] (by rfl) rfl rfl (by (try simp only [List.map_toArray, List.map_cons, List.map_nil]); first | done | rfl | (simp only [List.length_drop, List.length_take]; rfl)) ?_
           with_reducible refine (spec_l02Dep.calls a0_0 _ _ l0_1 x6_2 x7_3 true _ ?side1 ?side2 A14.out).mono ?_
           (case side1 => exact cP (Kd.C_below HR0_1.out HB.out))
           (case side2 => exact HC0_1.out)
           rintro e w19 ⟨rfl, hb⟩
           refine ⟨_, rfl, ?_⟩
           have n0_ := Aside0.mk (blkB BK385.out hb)
           have n1_ := Aside0.mk (blkB BK386.out hb)
           have n2_ := Aside0.mk (below_step (bW) hb)
           clear BK385 BK386 HB; have BK385 := n0_; have BK386 := n1_; have HB := n2_; clear n0_ n1_ n2_
           (try clear hb)
           (try clear hb2)
           (try clear hk)
           (try clear hi)
           refine hK.out _ _ ⟨(blk_cell BK385.out 0).trans rfl, (blk_cell BK385.out 1).trans rfl⟩ (fun hHeld => ?_)
           clear hK K
           refine norm_ (a' := ?_) ?_ ?_
           rotate_left
           ·show Act.put _ (some 31) _ = _
            simp only [Act.put, List.setIfInBounds_toArray, List.set_cons_zero, List.set_cons_succ, i64_w, i32_w]
            rfl
           refine pureS (i := 4) (N := some 32) (any_of HT_.out (by kernel_rfl)) ?_
           refine pureS (i := 5) (N := some 33) (any_of HT_.out (by kernel_rfl)) ?_
           refine pureU (i := 6) (N := some 34) (any_of HT_.out (by kernel_rfl)) ?_
           refine pureU (i := 7) (N := some 35) (any_of HT_.out (by kernel_rfl)) ?_
           refine pureU (i := 8) (N := some 36) (any_of HT_.out (by kernel_rfl)) ?_
           refine pureU (i := 9) (N := some 37) (any_of HT_.out (by kernel_rfl)) ?_
           refine pureU (i := 10) (N := some 38) (any_of HT_.out (by kernel_rfl)) ?_
           refine pureU (i := 11) (N := some 39) (any_of HT_.out (by kernel_rfl)) ?_
           refine pureU (i := 12) (N := some 40) (any_of HT_.out (by kernel_rfl)) ?_
           refine pureU (i := 13) (N := some 41) (any_of HT_.out (by kernel_rfl)) ?_
           refine pureU (i := 14) (N := some 42) (any_of HT_.out (by kernel_rfl)) ?_
           refine pureU (i := 15) (N := some 43) (any_of HT_.out (by kernel_rfl)) ?_
           refine pureU (i := 16) (N := some 44) (any_of HT_.out (by kernel_rfl)) ?_
           refine pureU (i := 17) (N := some 45) (any_of HT_.out (by kernel_rfl)) ?_
           refine pureU (i := 18) (N := some 46) (any_of HT_.out (by kernel_rfl)) ?_
           refine pureS (i := 19) (N := some 47) (any_of HT_.out (by kernel_rfl)) ?_
           refine done_ (done_of HT_.out (by kernel_rfl)) ?_
           try go_wp2
           go_roundg k3
           case measure => have := HK1.out; have := HK2.out; have := HK3.out; omega
           case rel => exact ⟨(wrap64 (x7_3 + 1)), (eW), H', ⟨by have := HK1.out; have := HK2.out; have := HK3.out; omega⟩, ⟨(bP BK385.out)⟩, ⟨(bP BK386.out)⟩, ⟨bW⟩⟩
          ·replace c15 := Bool.eq_false_iff.mpr c15
           subst c15
           have H1 : ((spec_l11Read.f k3 a1_0 a1_1 a1_2 l1_3 x5_1 (([x6_2, x7_3] : List Int))).bind fun t392 => ((spec_l11Read.f k3 a1_0 a1_1 a1_2 l1_3 x5_1 (([x7_3, x6_2] : List Int))).bind fun t396 => (if t392 = t396 then (spec_l11Fault.l2 k3 x5_1 x6_2 (wrap64 (x7_3 + 1)) a0_0 l0_1 a1_0 a1_1 a1_2 l1_3) else (some (([x5_1, x6_2, x7_3] : List Int)))))) = some r := by rw [if_neg (show ¬ (false = true) by decide)] at H; exact H
           clear H
           have H := H1
           clear H1
           obtain ⟨y389, hy389⟩ : ∃ y_ : List Int, y_ = (([x6_2, x7_3] : List Int)) := ⟨_, rfl⟩
           replace H : ((spec_l11Read.f k3 a1_0 a1_1 a1_2 l1_3 x5_1 y389).bind fun t392 => ((spec_l11Read.f k3 a1_0 a1_1 a1_2 l1_3 x5_1 (([x7_3, x6_2] : List Int))).bind fun t396 => (if t392 = t396 then (spec_l11Fault.l2 k3 x5_1 x6_2 (wrap64 (x7_3 + 1)) a0_0 l0_1 a1_0 a1_1 a1_2 l1_3) else (some (([x5_1, x6_2, x7_3] : List Int)))))) = some r := by first | (rw [hy389]; with_reducible exact H) | (have H2_ := (Option.bind_some _ _).symm.trans H; rw [hy389]; with_reducible exact H2_) | (have H2_ := (Option.bind_some _ _).symm.trans H; with_reducible exact H2_) | with_reducible exact H | (rw [hy389]; exact H) | exact H
           have Ny389 := Aside0.mk hy389
           clear hy389
           replace H := Option.bind_eq_some_iff.mp H
           obtain ⟨t392, A200, H⟩ := H
           replace H : ((spec_l11Read.f k3 a1_0 a1_1 a1_2 l1_3 x5_1 (([x7_3, x6_2] : List Int))).bind fun t396 => (if t392 = t396 then (spec_l11Fault.l2 k3 x5_1 x6_2 (wrap64 (x7_3 + 1)) a0_0 l0_1 a1_0 a1_1 a1_2 l1_3) else (some (([x5_1, x6_2, x7_3] : List Int))))) = some r := H
           have A20 := Aside0.mk A200
           clear A200
           obtain ⟨y393, hy393⟩ : ∃ y_ : List Int, y_ = (([x7_3, x6_2] : List Int)) := ⟨_, rfl⟩
           replace H : ((spec_l11Read.f k3 a1_0 a1_1 a1_2 l1_3 x5_1 y393).bind fun t396 => (if t392 = t396 then (spec_l11Fault.l2 k3 x5_1 x6_2 (wrap64 (x7_3 + 1)) a0_0 l0_1 a1_0 a1_1 a1_2 l1_3) else (some (([x5_1, x6_2, x7_3] : List Int))))) = some r := by first | (rw [hy393]; with_reducible exact H) | (have H2_ := (Option.bind_some _ _).symm.trans H; rw [hy393]; with_reducible exact H2_) | (have H2_ := (Option.bind_some _ _).symm.trans H; with_reducible exact H2_) | with_reducible exact H | (rw [hy393]; exact H) | exact H
           have Ny393 := Aside0.mk hy393
           clear hy393
           replace H := Option.bind_eq_some_iff.mp H
           obtain ⟨t396, A210, H⟩ := H
           replace H : (if t392 = t396 then (spec_l11Fault.l2 k3 x5_1 x6_2 (wrap64 (x7_3 + 1)) a0_0 l0_1 a1_0 a1_1 a1_2 l1_3) else (some (([x5_1, x6_2, x7_3] : List Int)))) = some r := H
           have A21 := Aside0.mk A210
           clear A210
           by_cases c22 : t392 = t396
           ·rw [if_pos c22] at H
            have c22b0 : (t392 == t396) = true := beq_iff_eq.mpr c22
            have c22b1 : (t392 != t396) = false := bne_eq_false_iff_eq.mpr c22
            clear c22
            have H' := Aside0.mk H
            clear H
            have hnb23 := NB386_385.out
            have hnc23 := NB385_386.out
            have hcz24_0 : wr.cell? ⟨gb386, 0, none⟩ = some (.int .i64 a1_0) := (blk_cell BK386.out 0).trans rfl
            have hcz24_1 : wr.cell? ⟨gb386, 1, none⟩ = some (.int .i64 a1_1) := (blk_cell BK386.out 1).trans rfl
            have hcz24_2 : wr.cell? ⟨gb386, 2, none⟩ = some (.int .i64 a1_2) := (blk_cell BK386.out 2).trans rfl
            have hcz24_3 : wr.cell? ⟨gb386, 3, none⟩ = some (.slice A1_3 l1_3.length c1_3) := (blk_cell BK386.out 3).trans rfl
            have hfz24_0 := blk_frozen BK386.out 0
            have hfz24_1 := blk_frozen BK386.out 1
            have hfz24_2 := blk_frozen BK386.out 2
            have hfz24_3 := blk_frozen BK386.out 3
            try go_wp2
            have n0_ := Aside0.mk (blk_drew BK385.out)
            have n1_ := Aside0.mk (blk_drew BK386.out)
            have n2_ := Aside0.mk (below_drew1 HB.out)
            clear BK385 BK386 HB; have BK385 := n0_; have BK386 := n1_; have HB := n2_; clear n0_ n1_ n2_
            refine start_ (n := 20) (S := fun w' => True) (ds := []) #[false, false, false, false, false, false, false, false, false, false, false, false, false, false, false, false, false, false, false, false] (by kernel_rfl) rfl rfl trivial (fun hHeld => ?_); refine with_tabW spec_l11Fault.tab10 spec_l11Fault.bits10 (fun HT_ HW_ => ?_)
            generalize wr.drew = w25 at BK385 BK386 HB hHeld ⊢
            refine pureS (i := 1) (N := some 29) (any_of HT_.out (by kernel_rfl)) ?_
            refine pureS (i := 2) (N := some 30) (any_of HT_.out (by kernel_rfl)) ?_
            refine inv_at [0, 3, 4, 5, 6, 7, 8, 9, 10, 11, 12, 13, 14, 15, 16, 17, 18, 19] (fun a0_ b a w' => ∃ (v390 : Value) (v394 : Value), a = putSel a0_ b [(0, 28, .agg #[.int .i64 a0_0, .slice A0_1 l0_1.length c0_1]), (3, 31, .bool false), (4, 32, .bool (!false)), (5, 33, .bool (!false)), (6, 34, .agg #[.int .i64 a1_0, .int .i64 a1_1, .int .i64 a1_2, .slice A1_3 l1_3.length c1_3]), (7, 35, .int .i64 x5_1), (8, 36, .int .i64 x6_2), (9, 37, .int .i64 x7_3), (10, 38, v390), (11, 39, .int .i64 t392), (12, 40, .agg #[.int .i64 a1_0, .int .i64 a1_1, .int .i64 a1_2, .slice A1_3 l1_3.length c1_3]), (13, 41, .int .i64 x5_1), (14, 42, .int .i64 x7_3), (15, 43, .int .i64 x6_2), (16, 44, v394), (17, 45, .int .i64 t396), (18, 46, .bool (t392 != t396)), (19, 47, .bool (t392 != t396))] ∧ (w'.heap[gb385]? = some (.cells #[.int .i64 a0_0, .slice A0_1 l0_1.length c0_1] 29 (0, 0))) ∧ (w'.heap[gb386]? = some (.cells #[.int .i64 a1_0, .int .i64 a1_1, .int .i64 a1_2, .slice A1_3 l1_3.length c1_3] 48 (0, 0))) ∧ (Below w.heap.size w w') ∧ (b 10 = true → Kd.R (Kd.int .i64) 2 w' w.heap.size (fun _ => True) v390 y389) ∧ (b 16 = true → Kd.R (Kd.int .i64) 2 w' w.heap.size (fun _ => True) v394 y393)) HT_.out HW_.out (by kernel_rfl) (by kernel_rfl) ?_ ?_ ?_
            ·exact ⟨.bool false, .bool false, by simp only [putSel, Bool.false_eq_true, if_false], BK385.out, BK386.out, HB.out, fun h_ => absurd h_ (by decide), fun h_ => absurd h_ (by decide)⟩
            ·skip
             clear BK385 BK386 HB
             refine steps_cons ?_ ?_
             ·rintro b a w' ⟨v390, v394, ha, Q_BK385, Q_BK386, Q_HB, Q_HO391, Q_HO395⟩ hb_ hon hoff
              refine ⟨_, rfl, fun K hK => ?_⟩
              have e2 : a.tmps[2]? = some (.pointer (some ⟨gb385, 0, none⟩)) := by rw [ha]; exact (putSel_off rfl).trans rfl
              replace ha := Aside0.mk ha
              have BK385 := Aside0.mk Q_BK385
              have BK386 := Aside0.mk Q_BK386
              have HB := Aside0.mk Q_HB
              have hc0_ : w'.cell? ⟨gb385, 0, none⟩ = some (.int .i64 a0_0) := (blk_cell BK385.out 0).trans rfl
              have hc1_ : w'.cell? ⟨gb385, 1, none⟩ = some (.slice A0_1 l0_1.length c0_1) := (blk_cell BK385.out 1).trans rfl
              refine value_ (w1 := w') (v := .agg #[.int .i64 a0_0, .slice A0_1 l0_1.length c0_1]) (by rfl) rfl ?_ ?_
              ·go_simp
               (try simp only [i64_w])
               try rfl
              refine hK.out _ _ ⟨v390, v394, (by rw [ha.out]; exact putSel_upk 0 hb_ rfl rfl rfl), Q_BK385, Q_BK386, Q_HB, fun h0_ => absurd ((hoff 10 (by kernel_rfl)).symm.trans h0_) (by decide), fun h0_ => absurd ((hoff 16 (by kernel_rfl)).symm.trans h0_) (by decide)⟩
             refine steps_cons ?_ ?_
             ·rintro b a w' ⟨v390, v394, ha, Q_BK385, Q_BK386, Q_HB, Q_HO391, Q_HO395⟩ hb_ hon hoff
              refine ⟨_, rfl, fun K hK => ?_⟩
              have e28 : a.tmps[28]? = some (.agg #[.int .i64 a0_0, .slice A0_1 l0_1.length c0_1]) := by rw [ha]; exact putSel_on (e := (0, 28, .agg #[.int .i64 a0_0, .slice A0_1 l0_1.length c0_1])) 0 rfl rfl (hon 0 (by kernel_rfl)) rfl
              have e29 : a.tmps[29]? = some (.int .i64 x6_2) := by rw [ha]; exact (putSel_off rfl).trans rfl
              have e30 : a.tmps[30]? = some (.int .i64 x7_3) := by rw [ha]; exact (putSel_off rfl).trans rfl
              replace ha := Aside0.mk ha
              have BK385 := Aside0.mk Q_BK385
              have BK386 := Aside0.mk Q_BK386
              have HB := Aside0.mk Q_HB
              refine goes_ Tryd.func117 (by kernel_rfl) rfl #[.agg #[.int .i64 a0_0, .slice A0_1 l0_1.length c0_1], .int .i64 x6_2, .int .i64 x7_3] (by rfl) rfl rfl (by first | (simp only [List.map_toArray, List.map_cons, List.map_nil, Act.eval, Array.getD_eq_getD_getElem?, Option.getD_some, e28, e29, e30]; done) | (simp only [List.map_toArray, List.map_cons, List.map_nil, Act.eval, Array.getD_eq_getD_getElem?, Option.getD_some, e28, e29, e30]; rfl)) ?_
              with_reducible refine (spec_l02Dep.calls a0_0 _ _ l0_1 x6_2 x7_3 false _ ?side1 ?side2 A14.out).mono ?_
              (case side1 => exact cP (Kd.C_below HR0_1.out HB.out))
              (case side2 => exact HC0_1.out)
              rintro e w26 ⟨rfl, hb⟩
              refine ⟨_, rfl, ?_⟩
              have n0_ := Aside0.mk (blkB BK385.out hb)
              have n1_ := Aside0.mk (blkB BK386.out hb)
              have n2_ := Aside0.mk (below_step (bW) hb)
              clear BK385 BK386 HB; have BK385 := n0_; have BK386 := n1_; have HB := n2_; clear n0_ n1_ n2_
              (try clear hb)
              (try clear hb2)
              (try clear hk)
              (try clear hi)
              refine hK.out _ _ ⟨v390, v394, (by rw [ha.out]; exact putSel_upk 1 hb_ rfl rfl rfl), (bP BK385.out), (bP BK386.out), (bW), fun h0_ => absurd ((hoff 10 (by kernel_rfl)).symm.trans h0_) (by decide), fun h0_ => absurd ((hoff 16 (by kernel_rfl)).symm.trans h0_) (by decide)⟩
             refine steps_cons ?_ ?_
             ·rintro b a w' ⟨v390, v394, ha, Q_BK385, Q_BK386, Q_HB, Q_HO391, Q_HO395⟩ hb_ hon hoff
              refine ⟨_, rfl, fun K hK => ?_⟩
              have e31 : a.tmps[31]? = some (.bool false) := by rw [ha]; exact putSel_on (e := (3, 31, .bool false)) 1 rfl rfl (hon 3 (by kernel_rfl)) rfl
              replace ha := Aside0.mk ha
              have BK385 := Aside0.mk Q_BK385
              have BK386 := Aside0.mk Q_BK386
              have HB := Aside0.mk Q_HB
              refine value_ (w1 := w') (v := .bool (!false)) (by rfl) rfl ?_ ?_
              ·go_simp
               (try simp only [i64_w])
               try rfl
              refine hK.out _ _ ⟨v390, v394, (by rw [ha.out]; exact putSel_upk 2 hb_ rfl rfl rfl), Q_BK385, Q_BK386, Q_HB, fun h0_ => absurd ((hoff 10 (by kernel_rfl)).symm.trans h0_) (by decide), fun h0_ => absurd ((hoff 16 (by kernel_rfl)).symm.trans h0_) (by decide)⟩
             refine steps_cons ?_ ?_
             ·rintro b a w' ⟨v390, v394, ha, Q_BK385, Q_BK386, Q_HB, Q_HO391, Q_HO395⟩ hb_ hon hoff
              refine ⟨_, rfl, fun K hK => ?_⟩
              have e32 : a.tmps[32]? = some (.bool (!false)) := by rw [ha]; exact putSel_on (e := (4, 32, .bool (!false))) 2 rfl rfl (hon 4 (by kernel_rfl)) rfl
              replace ha := Aside0.mk ha
              have BK385 := Aside0.mk Q_BK385
              have BK386 := Aside0.mk Q_BK386
              have HB := Aside0.mk Q_HB
              refine value_ (w1 := w') (v := .bool (!false)) (by rfl) rfl ?_ ?_
              ·go_simp
               (try simp only [i64_w])
               try rfl
              refine hK.out _ _ ⟨v390, v394, (by rw [ha.out]; exact putSel_upk 3 hb_ rfl rfl rfl), Q_BK385, Q_BK386, Q_HB, fun h0_ => absurd ((hoff 10 (by kernel_rfl)).symm.trans h0_) (by decide), fun h0_ => absurd ((hoff 16 (by kernel_rfl)).symm.trans h0_) (by decide)⟩
             refine steps_cons ?_ ?_
             ·rintro b a w' ⟨v390, v394, ha, Q_BK385, Q_BK386, Q_HB, Q_HO391, Q_HO395⟩ hb_ hon hoff
              refine ⟨_, rfl, fun K hK => ?_⟩
              have e3 : a.tmps[3]? = some (.pointer (some ⟨gb386, 0, none⟩)) := by rw [ha]; exact (putSel_off rfl).trans rfl
              have e33 : a.tmps[33]? = some (.bool (!false)) := by rw [ha]; exact putSel_on (e := (5, 33, .bool (!false))) 3 rfl rfl (hon 5 (by kernel_rfl)) rfl
              replace ha := Aside0.mk ha
              have BK385 := Aside0.mk Q_BK385
              have BK386 := Aside0.mk Q_BK386
              have HB := Aside0.mk Q_HB
              have hc0_ : w'.cell? ⟨gb386, 0, none⟩ = some (.int .i64 a1_0) := (blk_cell BK386.out 0).trans rfl
              have hc1_ : w'.cell? ⟨gb386, 1, none⟩ = some (.int .i64 a1_1) := (blk_cell BK386.out 1).trans rfl
              have hc2_ : w'.cell? ⟨gb386, 2, none⟩ = some (.int .i64 a1_2) := (blk_cell BK386.out 2).trans rfl
              have hc3_ : w'.cell? ⟨gb386, 3, none⟩ = some (.slice A1_3 l1_3.length c1_3) := (blk_cell BK386.out 3).trans rfl
              refine value_ (w1 := w') (v := .agg #[.int .i64 a1_0, .int .i64 a1_1, .int .i64 a1_2, .slice A1_3 l1_3.length c1_3]) (wanted_on rfl rfl rfl (e33.trans (by first | rfl | (simp [*]; done)))) rfl ?_ ?_
              ·go_simp
               (try simp only [i64_w])
               try rfl
              refine hK.out _ _ ⟨v390, v394, (by rw [ha.out]; exact putSel_upk 4 hb_ rfl rfl rfl), Q_BK385, Q_BK386, Q_HB, Q_HO391, Q_HO395⟩
             refine steps_cons ?_ ?_
             ·rintro b a w' ⟨v390, v394, ha, Q_BK385, Q_BK386, Q_HB, Q_HO391, Q_HO395⟩ hb_ hon hoff
              refine ⟨_, rfl, fun K hK => ?_⟩
              have e5 : a.tmps[5]? = some (.int .i64 x5_1) := by rw [ha]; exact (putSel_off rfl).trans rfl
              have e33 : a.tmps[33]? = some (.bool (!false)) := by rw [ha]; exact putSel_on (e := (5, 33, .bool (!false))) 3 rfl rfl (hon 5 (by kernel_rfl)) rfl
              replace ha := Aside0.mk ha
              have BK385 := Aside0.mk Q_BK385
              have BK386 := Aside0.mk Q_BK386
              have HB := Aside0.mk Q_HB
              refine value_ (w1 := w') (v := .int .i64 x5_1) (wanted_on rfl rfl rfl (e33.trans (by first | rfl | (simp [*]; done)))) rfl ?_ ?_
              ·go_simp
               (try simp only [i64_w])
               try rfl
              refine hK.out _ _ ⟨v390, v394, (by rw [ha.out]; exact putSel_upk 5 hb_ rfl rfl rfl), Q_BK385, Q_BK386, Q_HB, Q_HO391, Q_HO395⟩
             refine steps_cons ?_ ?_
             ·rintro b a w' ⟨v390, v394, ha, Q_BK385, Q_BK386, Q_HB, Q_HO391, Q_HO395⟩ hb_ hon hoff
              refine ⟨_, rfl, fun K hK => ?_⟩
              have e6 : a.tmps[6]? = some (.int .i64 x6_2) := by rw [ha]; exact (putSel_off rfl).trans rfl
              have e33 : a.tmps[33]? = some (.bool (!false)) := by rw [ha]; exact putSel_on (e := (5, 33, .bool (!false))) 3 rfl rfl (hon 5 (by kernel_rfl)) rfl
              replace ha := Aside0.mk ha
              have BK385 := Aside0.mk Q_BK385
              have BK386 := Aside0.mk Q_BK386
              have HB := Aside0.mk Q_HB
              refine value_ (w1 := w') (v := .int .i64 x6_2) (wanted_on rfl rfl rfl (e33.trans (by first | rfl | (simp [*]; done)))) rfl ?_ ?_
              ·go_simp
               (try simp only [i64_w])
               try rfl
              refine hK.out _ _ ⟨v390, v394, (by rw [ha.out]; exact putSel_upk 6 hb_ rfl rfl rfl), Q_BK385, Q_BK386, Q_HB, fun h0_ => absurd ((hoff 10 (by kernel_rfl)).symm.trans h0_) (by decide), Q_HO395⟩
             refine steps_cons ?_ ?_
             ·rintro b a w' ⟨v390, v394, ha, Q_BK385, Q_BK386, Q_HB, Q_HO391, Q_HO395⟩ hb_ hon hoff
              refine ⟨_, rfl, fun K hK => ?_⟩
              have e7 : a.tmps[7]? = some (.int .i64 x7_3) := by rw [ha]; exact (putSel_off rfl).trans rfl
              have e33 : a.tmps[33]? = some (.bool (!false)) := by rw [ha]; exact putSel_on (e := (5, 33, .bool (!false))) 3 rfl rfl (hon 5 (by kernel_rfl)) rfl
              replace ha := Aside0.mk ha
              have BK385 := Aside0.mk Q_BK385
              have BK386 := Aside0.mk Q_BK386
              have HB := Aside0.mk Q_HB
              refine value_ (w1 := w') (v := .int .i64 x7_3) (wanted_on rfl rfl rfl (e33.trans (by first | rfl | (simp [*]; done)))) rfl ?_ ?_
              ·go_simp
               (try simp only [i64_w])
               try rfl
              refine hK.out _ _ ⟨v390, v394, (by rw [ha.out]; exact putSel_upk 7 hb_ rfl rfl rfl), Q_BK385, Q_BK386, Q_HB, fun h0_ => absurd ((hoff 10 (by kernel_rfl)).symm.trans h0_) (by decide), Q_HO395⟩
             refine steps_cons ?_ ?_
             ·rintro b a w' ⟨v390, v394, ha, Q_BK385, Q_BK386, Q_HB, Q_HO391, Q_HO395⟩ hb_ hon hoff
              refine ⟨_, rfl, fun K hK => ?_⟩
              have e36 : a.tmps[36]? = some (.int .i64 x6_2) := by rw [ha]; exact putSel_on (e := (8, 36, .int .i64 x6_2)) 6 rfl rfl (hon 8 (by kernel_rfl)) rfl
              have e37 : a.tmps[37]? = some (.int .i64 x7_3) := by rw [ha]; exact putSel_on (e := (9, 37, .int .i64 x7_3)) 7 rfl rfl (hon 9 (by kernel_rfl)) rfl
              have e33 : a.tmps[33]? = some (.bool (!false)) := by rw [ha]; exact putSel_on (e := (5, 33, .bool (!false))) 3 rfl rfl (hon 5 (by kernel_rfl)) rfl
              replace ha := Aside0.mk ha
              have BK385 := Aside0.mk Q_BK385
              have BK386 := Aside0.mk Q_BK386
              have HB := Aside0.mk Q_HB
              refine Kd.R_lit_step (Kd.int .i64) _ 2 ?hg (N := 38) ?hd (xs := ([x6_2, x7_3] : List Int)) (inner := [.int .i64 x6_2, .int .i64 x7_3]) (ok := fun _ => True) (okp := fun _ => True) ?hr ?hp (fun _ hk => hk) trivial (Below.refl _ _) (Nat.le_refl _) (by simp) ?_; (case hd => rfl); (case hg => first | rfl | exact wanted_on rfl rfl rfl (e33.trans (by first | rfl | (simp [*]; done)))); (case hr => first | (go_simp; done) | (go_simp; rfl)); (case hp => exact (Reps.one (show Kd.M (Kd.int .i64) _ _ _ x6_2 [.int .i64 x6_2] from rfl) (Reps.one (show Kd.M (Kd.int .i64) _ _ _ x7_3 [.int .i64 x7_3] from rfl) (Reps.none _ _))))
              intro v390 w28 ho29 hb hg_ hnew_
              clear hg_ hnew_
              (first | rw [← Ny389.out] at ho29 | (simp only [Int.reduceToNat] at ho29; rw [← Ny389.out] at ho29))
              have n0_ := Aside0.mk (Kd.R_lower ho29 (below_size (bW)))
              have n1_ := Aside0.mk (blkB BK385.out hb)
              have n2_ := Aside0.mk (blkB BK386.out hb)
              have n3_ := Aside0.mk (below_step (bW) hb)
              have z_HO395 := fun (h0_ : b 16 = true) => (show Kd.R (Kd.int .i64) 2 w28 w.heap.size (fun _ => True) v394 y393 from by first | exact (Kd.R_elder' (rP (Q_HO395 h0_)) (Kd.R_base ho29) hb) | exact Kd.R_mono (Kd.R_elder' (rP (Q_HO395 h0_)) (Kd.R_base ho29) hb) (fun _ h_ => by first | trivial | exact h_ | exact h_.1))
              clear BK385 BK386 HB; have HO391 := n0_; have BK385 := n1_; have BK386 := n2_; have HB := n3_; clear n0_ n1_ n2_ n3_ hb ho29
              refine hK.out _ _ ⟨v390, v394, (by rw [ha.out]; exact putSel_upk 8 hb_ rfl rfl rfl), (bP BK385.out), (bP BK386.out), (bW), fun _ => (rP HO391.out), z_HO395⟩
             refine steps_cons ?_ ?_
             ·rintro b a w' ⟨v390, v394, ha, Q_BK385, Q_BK386, Q_HB, Q_HO391, Q_HO395⟩ hb_ hon hoff
              refine ⟨_, rfl, fun K hK => ?_⟩
              have e34 : a.tmps[34]? = some (.agg #[.int .i64 a1_0, .int .i64 a1_1, .int .i64 a1_2, .slice A1_3 l1_3.length c1_3]) := by rw [ha]; exact putSel_on (e := (6, 34, .agg #[.int .i64 a1_0, .int .i64 a1_1, .int .i64 a1_2, .slice A1_3 l1_3.length c1_3])) 4 rfl rfl (hon 6 (by kernel_rfl)) rfl
              have e35 : a.tmps[35]? = some (.int .i64 x5_1) := by rw [ha]; exact putSel_on (e := (7, 35, .int .i64 x5_1)) 5 rfl rfl (hon 7 (by kernel_rfl)) rfl
              have e38 : a.tmps[38]? = some (v390) := by rw [ha]; exact putSel_on (e := (10, 38, v390)) 8 rfl rfl (hon 10 (by kernel_rfl)) rfl
              have e33 : a.tmps[33]? = some (.bool (!false)) := by rw [ha]; exact putSel_on (e := (5, 33, .bool (!false))) 3 rfl rfl (hon 5 (by kernel_rfl)) rfl
              replace ha := Aside0.mk ha
              have BK385 := Aside0.mk Q_BK385
              have BK386 := Aside0.mk Q_BK386
              have HB := Aside0.mk Q_HB
              have HO391 := Aside0.mk (Q_HO391 (hon 10 (by kernel_rfl)))
              obtain ⟨Ao30, co30, eo30⟩ := Kd.R_slice HO391.out
              (first | subst eo30 | (injection eo30 with f1_ f2_ f3_; have f4_ := f1_.symm; have f5_ := f3_.symm; clear f1_ f2_ f3_; subst f4_; subst f5_))
              refine goes_ Tryd.func118 (by kernel_rfl) rfl #[.agg #[.int .i64 a1_0, .int .i64 a1_1, .int .i64 a1_2, .slice A1_3 l1_3.length c1_3], .int .i64 x5_1, .slice Ao30 y389.length co30] (by first | rfl | exact wanted_on rfl rfl rfl (e33.trans (by first | rfl | (simp [*]; done)))) rfl rfl (by first | (simp only [List.map_toArray, List.map_cons, List.map_nil, Act.eval, Array.getD_eq_getD_getElem?, Option.getD_some, e34, e35, e38, e33]; done) | (simp only [List.map_toArray, List.map_cons, List.map_nil, Act.eval, Array.getD_eq_getD_getElem?, Option.getD_some, e34, e35, e38, e33]; rfl)) ?_
              with_reducible refine (spec_l11Read.calls k3 a1_0 a1_1 a1_2 _ _ l1_3 x5_1 _ _ y389 t392 _ ?side1 ?side2 ?side3 ?side4 A20.out).mono ?_
              (case side1 => exact cP (Kd.C_below HR1_3.out HB.out))
              (case side2 => exact HC1_3.out)
              (case side3 => exact cP ((Kd.R_reads' HO391.out).2.2))
              (case side4 => exact (Kd.R_reads' HO391.out).2.1)
              rintro e w31 ⟨rfl, hb⟩
              refine ⟨_, rfl, ?_⟩
              have n0_ := Aside0.mk (Kd.R_below (rP HO391.out) hb)
              have n1_ := Aside0.mk (blkB BK385.out hb)
              have n2_ := Aside0.mk (blkB BK386.out hb)
              have n3_ := Aside0.mk (below_step (bW) hb)
              have z_HO395 := fun (h0_ : b 16 = true) => (show Kd.R (Kd.int .i64) 2 w31 w.heap.size (fun _ => True) v394 y393 from by first | exact (Kd.R_below (rP (Q_HO395 h0_)) hb) | exact Kd.R_mono (Kd.R_below (rP (Q_HO395 h0_)) hb) (fun _ h_ => by first | trivial | exact h_ | exact h_.1))
              clear HO391 BK385 BK386 HB; have HO391 := n0_; have BK385 := n1_; have BK386 := n2_; have HB := n3_; clear n0_ n1_ n2_ n3_
              (try clear hb)
              (try clear hb2)
              (try clear hk)
              (try clear hi)
              refine hK.out _ _ ⟨.slice Ao30 y389.length co30, v394, (by rw [ha.out]; exact putSel_upk 9 hb_ rfl rfl rfl), (bP BK385.out), (bP BK386.out), (bW), fun _ => (rP HO391.out), z_HO395⟩
             refine steps_cons ?_ ?_
             ·rintro b a w' ⟨v390, v394, ha, Q_BK385, Q_BK386, Q_HB, Q_HO391, Q_HO395⟩ hb_ hon hoff
              refine ⟨_, rfl, fun K hK => ?_⟩
              have e3 : a.tmps[3]? = some (.pointer (some ⟨gb386, 0, none⟩)) := by rw [ha]; exact (putSel_off rfl).trans rfl
              have e33 : a.tmps[33]? = some (.bool (!false)) := by rw [ha]; exact putSel_on (e := (5, 33, .bool (!false))) 3 rfl rfl (hon 5 (by kernel_rfl)) rfl
              replace ha := Aside0.mk ha
              have BK385 := Aside0.mk Q_BK385
              have BK386 := Aside0.mk Q_BK386
              have HB := Aside0.mk Q_HB
              have hc0_ : w'.cell? ⟨gb386, 0, none⟩ = some (.int .i64 a1_0) := (blk_cell BK386.out 0).trans rfl
              have hc1_ : w'.cell? ⟨gb386, 1, none⟩ = some (.int .i64 a1_1) := (blk_cell BK386.out 1).trans rfl
              have hc2_ : w'.cell? ⟨gb386, 2, none⟩ = some (.int .i64 a1_2) := (blk_cell BK386.out 2).trans rfl
              have hc3_ : w'.cell? ⟨gb386, 3, none⟩ = some (.slice A1_3 l1_3.length c1_3) := (blk_cell BK386.out 3).trans rfl
              refine value_ (w1 := w') (v := .agg #[.int .i64 a1_0, .int .i64 a1_1, .int .i64 a1_2, .slice A1_3 l1_3.length c1_3]) (wanted_on rfl rfl rfl (e33.trans (by first | rfl | (simp [*]; done)))) rfl ?_ ?_
              ·go_simp
               (try simp only [i64_w])
               try rfl
              refine hK.out _ _ ⟨v390, v394, (by rw [ha.out]; exact putSel_upk 10 hb_ rfl rfl rfl), Q_BK385, Q_BK386, Q_HB, Q_HO391, Q_HO395⟩
             refine steps_cons ?_ ?_
             ·rintro b a w' ⟨v390, v394, ha, Q_BK385, Q_BK386, Q_HB, Q_HO391, Q_HO395⟩ hb_ hon hoff
              refine ⟨_, rfl, fun K hK => ?_⟩
              have e5 : a.tmps[5]? = some (.int .i64 x5_1) := by rw [ha]; exact (putSel_off rfl).trans rfl
              have e33 : a.tmps[33]? = some (.bool (!false)) := by rw [ha]; exact putSel_on (e := (5, 33, .bool (!false))) 3 rfl rfl (hon 5 (by kernel_rfl)) rfl
              replace ha := Aside0.mk ha
              have BK385 := Aside0.mk Q_BK385
              have BK386 := Aside0.mk Q_BK386
              have HB := Aside0.mk Q_HB
              refine value_ (w1 := w') (v := .int .i64 x5_1) (wanted_on rfl rfl rfl (e33.trans (by first | rfl | (simp [*]; done)))) rfl ?_ ?_
              ·go_simp
               (try simp only [i64_w])
               try rfl
              refine hK.out _ _ ⟨v390, v394, (by rw [ha.out]; exact putSel_upk 11 hb_ rfl rfl rfl), Q_BK385, Q_BK386, Q_HB, Q_HO391, Q_HO395⟩
             refine steps_cons ?_ ?_
             ·rintro b a w' ⟨v390, v394, ha, Q_BK385, Q_BK386, Q_HB, Q_HO391, Q_HO395⟩ hb_ hon hoff
              refine ⟨_, rfl, fun K hK => ?_⟩
              have e7 : a.tmps[7]? = some (.int .i64 x7_3) := by rw [ha]; exact (putSel_off rfl).trans rfl
              have e33 : a.tmps[33]? = some (.bool (!false)) := by rw [ha]; exact putSel_on (e := (5, 33, .bool (!false))) 3 rfl rfl (hon 5 (by kernel_rfl)) rfl
              replace ha := Aside0.mk ha
              have BK385 := Aside0.mk Q_BK385
              have BK386 := Aside0.mk Q_BK386
              have HB := Aside0.mk Q_HB
              refine value_ (w1 := w') (v := .int .i64 x7_3) (wanted_on rfl rfl rfl (e33.trans (by first | rfl | (simp [*]; done)))) rfl ?_ ?_
              ·go_simp
               (try simp only [i64_w])
               try rfl
              refine hK.out _ _ ⟨v390, v394, (by rw [ha.out]; exact putSel_upk 12 hb_ rfl rfl rfl), Q_BK385, Q_BK386, Q_HB, Q_HO391, fun h0_ => absurd ((hoff 16 (by kernel_rfl)).symm.trans h0_) (by decide)⟩
             refine steps_cons ?_ ?_
             ·rintro b a w' ⟨v390, v394, ha, Q_BK385, Q_BK386, Q_HB, Q_HO391, Q_HO395⟩ hb_ hon hoff
              refine ⟨_, rfl, fun K hK => ?_⟩
              have e6 : a.tmps[6]? = some (.int .i64 x6_2) := by rw [ha]; exact (putSel_off rfl).trans rfl
              have e33 : a.tmps[33]? = some (.bool (!false)) := by rw [ha]; exact putSel_on (e := (5, 33, .bool (!false))) 3 rfl rfl (hon 5 (by kernel_rfl)) rfl
              replace ha := Aside0.mk ha
              have BK385 := Aside0.mk Q_BK385
              have BK386 := Aside0.mk Q_BK386
              have HB := Aside0.mk Q_HB
              refine value_ (w1 := w') (v := .int .i64 x6_2) (wanted_on rfl rfl rfl (e33.trans (by first | rfl | (simp [*]; done)))) rfl ?_ ?_
              ·go_simp
               (try simp only [i64_w])
               try rfl
              refine hK.out _ _ ⟨v390, v394, (by rw [ha.out]; exact putSel_upk 13 hb_ rfl rfl rfl), Q_BK385, Q_BK386, Q_HB, Q_HO391, fun h0_ => absurd ((hoff 16 (by kernel_rfl)).symm.trans h0_) (by decide)⟩
             refine steps_cons ?_ ?_
             ·rintro b a w' ⟨v390, v394, ha, Q_BK385, Q_BK386, Q_HB, Q_HO391, Q_HO395⟩ hb_ hon hoff
              refine ⟨_, rfl, fun K hK => ?_⟩
              have e42 : a.tmps[42]? = some (.int .i64 x7_3) := by rw [ha]; exact putSel_on (e := (14, 42, .int .i64 x7_3)) 12 rfl rfl (hon 14 (by kernel_rfl)) rfl
              have e43 : a.tmps[43]? = some (.int .i64 x6_2) := by rw [ha]; exact putSel_on (e := (15, 43, .int .i64 x6_2)) 13 rfl rfl (hon 15 (by kernel_rfl)) rfl
              have e33 : a.tmps[33]? = some (.bool (!false)) := by rw [ha]; exact putSel_on (e := (5, 33, .bool (!false))) 3 rfl rfl (hon 5 (by kernel_rfl)) rfl
              replace ha := Aside0.mk ha
              have BK385 := Aside0.mk Q_BK385
              have BK386 := Aside0.mk Q_BK386
              have HB := Aside0.mk Q_HB
              refine Kd.R_lit_step (Kd.int .i64) _ 2 ?hg (N := 44) ?hd (xs := ([x7_3, x6_2] : List Int)) (inner := [.int .i64 x7_3, .int .i64 x6_2]) (ok := fun _ => True) (okp := fun _ => True) ?hr ?hp (fun _ hk => hk) trivial (Below.refl _ _) (Nat.le_refl _) (by simp) ?_; (case hd => rfl); (case hg => first | rfl | exact wanted_on rfl rfl rfl (e33.trans (by first | rfl | (simp [*]; done)))); (case hr => first | (go_simp; done) | (go_simp; rfl)); (case hp => exact (Reps.one (show Kd.M (Kd.int .i64) _ _ _ x7_3 [.int .i64 x7_3] from rfl) (Reps.one (show Kd.M (Kd.int .i64) _ _ _ x6_2 [.int .i64 x6_2] from rfl) (Reps.none _ _))))
              intro v394 w28 ho29 hb hg_ hnew_
              clear hg_ hnew_
              (first | rw [← Ny393.out] at ho29 | (simp only [Int.reduceToNat] at ho29; rw [← Ny393.out] at ho29))
              have n0_ := Aside0.mk (Kd.R_lower ho29 (below_size (bW)))
              have n1_ := Aside0.mk (blkB BK385.out hb)
              have n2_ := Aside0.mk (blkB BK386.out hb)
              have n3_ := Aside0.mk (below_step (bW) hb)
              have z_HO391 := fun (h0_ : b 10 = true) => (show Kd.R (Kd.int .i64) 2 w28 w.heap.size (fun _ => True) v390 y389 from by first | exact (Kd.R_elder' (rP (Q_HO391 h0_)) (Kd.R_base ho29) hb) | exact Kd.R_mono (Kd.R_elder' (rP (Q_HO391 h0_)) (Kd.R_base ho29) hb) (fun _ h_ => by first | trivial | exact h_ | exact h_.1))
              clear BK385 BK386 HB; have HO395 := n0_; have BK385 := n1_; have BK386 := n2_; have HB := n3_; clear n0_ n1_ n2_ n3_ hb ho29
              refine hK.out _ _ ⟨v390, v394, (by rw [ha.out]; exact putSel_upk 14 hb_ rfl rfl rfl), (bP BK385.out), (bP BK386.out), (bW), z_HO391, fun _ => (rP HO395.out)⟩
             refine steps_cons ?_ ?_
             ·rintro b a w' ⟨v390, v394, ha, Q_BK385, Q_BK386, Q_HB, Q_HO391, Q_HO395⟩ hb_ hon hoff
              refine ⟨_, rfl, fun K hK => ?_⟩
              have e40 : a.tmps[40]? = some (.agg #[.int .i64 a1_0, .int .i64 a1_1, .int .i64 a1_2, .slice A1_3 l1_3.length c1_3]) := by rw [ha]; exact putSel_on (e := (12, 40, .agg #[.int .i64 a1_0, .int .i64 a1_1, .int .i64 a1_2, .slice A1_3 l1_3.length c1_3])) 10 rfl rfl (hon 12 (by kernel_rfl)) rfl
              have e41 : a.tmps[41]? = some (.int .i64 x5_1) := by rw [ha]; exact putSel_on (e := (13, 41, .int .i64 x5_1)) 11 rfl rfl (hon 13 (by kernel_rfl)) rfl
              have e44 : a.tmps[44]? = some (v394) := by rw [ha]; exact putSel_on (e := (16, 44, v394)) 14 rfl rfl (hon 16 (by kernel_rfl)) rfl
              have e33 : a.tmps[33]? = some (.bool (!false)) := by rw [ha]; exact putSel_on (e := (5, 33, .bool (!false))) 3 rfl rfl (hon 5 (by kernel_rfl)) rfl
              replace ha := Aside0.mk ha
              have BK385 := Aside0.mk Q_BK385
              have BK386 := Aside0.mk Q_BK386
              have HB := Aside0.mk Q_HB
              have HO391 := Aside0.mk (Q_HO391 (hon 10 (by kernel_rfl)))
              have HO395 := Aside0.mk (Q_HO395 (hon 16 (by kernel_rfl)))
              obtain ⟨Ao34, co34, eo34⟩ := Kd.R_slice HO395.out
              (first | subst eo34 | (injection eo34 with f1_ f2_ f3_; have f4_ := f1_.symm; have f5_ := f3_.symm; clear f1_ f2_ f3_; subst f4_; subst f5_))
              refine goes_ Tryd.func118 (by kernel_rfl) rfl #[.agg #[.int .i64 a1_0, .int .i64 a1_1, .int .i64 a1_2, .slice A1_3 l1_3.length c1_3], .int .i64 x5_1, .slice Ao34 y393.length co34] (by first | rfl | exact wanted_on rfl rfl rfl (e33.trans (by first | rfl | (simp [*]; done)))) rfl rfl (by first | (simp only [List.map_toArray, List.map_cons, List.map_nil, Act.eval, Array.getD_eq_getD_getElem?, Option.getD_some, e40, e41, e44, e33]; done) | (simp only [List.map_toArray, List.map_cons, List.map_nil, Act.eval, Array.getD_eq_getD_getElem?, Option.getD_some, e40, e41, e44, e33]; rfl)) ?_
              with_reducible refine (spec_l11Read.calls k3 a1_0 a1_1 a1_2 _ _ l1_3 x5_1 _ _ y393 t396 _ ?side1 ?side2 ?side3 ?side4 A21.out).mono ?_
              (case side1 => exact cP (Kd.C_below HR1_3.out HB.out))
              (case side2 => exact HC1_3.out)
              (case side3 => exact cP ((Kd.R_reads' HO395.out).2.2))
              (case side4 => exact (Kd.R_reads' HO395.out).2.1)
              rintro e w35 ⟨rfl, hb⟩
              refine ⟨_, rfl, ?_⟩
              have n0_ := Aside0.mk (Kd.R_below (rP HO391.out) hb)
              have n1_ := Aside0.mk (Kd.R_below (rP HO395.out) hb)
              have n2_ := Aside0.mk (blkB BK385.out hb)
              have n3_ := Aside0.mk (blkB BK386.out hb)
              have n4_ := Aside0.mk (below_step (bW) hb)
              clear HO391 HO395 BK385 BK386 HB; have HO391 := n0_; have HO395 := n1_; have BK385 := n2_; have BK386 := n3_; have HB := n4_; clear n0_ n1_ n2_ n3_ n4_
              (try clear hb)
              (try clear hb2)
              (try clear hk)
              (try clear hi)
              refine hK.out _ _ ⟨v390, .slice Ao34 y393.length co34, (by rw [ha.out]; exact putSel_upk 15 hb_ rfl rfl rfl), (bP BK385.out), (bP BK386.out), (bW), fun _ => (rP HO391.out), fun _ => (rP HO395.out)⟩
             refine steps_cons ?_ ?_
             ·rintro b a w' ⟨v390, v394, ha, Q_BK385, Q_BK386, Q_HB, Q_HO391, Q_HO395⟩ hb_ hon hoff
              refine ⟨_, rfl, fun K hK => ?_⟩
              have e39 : a.tmps[39]? = some (.int .i64 t392) := by rw [ha]; exact putSel_on (e := (11, 39, .int .i64 t392)) 9 rfl rfl (hon 11 (by kernel_rfl)) rfl
              have e45 : a.tmps[45]? = some (.int .i64 t396) := by rw [ha]; exact putSel_on (e := (17, 45, .int .i64 t396)) 15 rfl rfl (hon 17 (by kernel_rfl)) rfl
              have e33 : a.tmps[33]? = some (.bool (!false)) := by rw [ha]; exact putSel_on (e := (5, 33, .bool (!false))) 3 rfl rfl (hon 5 (by kernel_rfl)) rfl
              replace ha := Aside0.mk ha
              have BK385 := Aside0.mk Q_BK385
              have BK386 := Aside0.mk Q_BK386
              have HB := Aside0.mk Q_HB
              have HO391 := Aside0.mk (Q_HO391 (hon 10 (by kernel_rfl)))
              have HO395 := Aside0.mk (Q_HO395 (hon 16 (by kernel_rfl)))
              refine value_ (w1 := w') (v := .bool (t392 != t396)) (wanted_on rfl rfl rfl (e33.trans (by first | rfl | (simp [*]; done)))) rfl ?_ ?_
              ·go_simp
               (try simp only [i64_w])
               try rfl
              refine hK.out _ _ ⟨v390, v394, (by rw [ha.out]; exact putSel_upk 16 hb_ rfl rfl rfl), Q_BK385, Q_BK386, Q_HB, Q_HO391, Q_HO395⟩
             refine steps_cons ?_ ?_
             ·rintro b a w' ⟨v390, v394, ha, Q_BK385, Q_BK386, Q_HB, Q_HO391, Q_HO395⟩ hb_ hon hoff
              refine ⟨_, rfl, fun K hK => ?_⟩
              have e33 : a.tmps[33]? = some (.bool (!false)) := by rw [ha]; exact putSel_on (e := (5, 33, .bool (!false))) 3 rfl rfl (hon 5 (by kernel_rfl)) rfl
              have e46 : a.tmps[46]? = some (.bool (t392 != t396)) := by rw [ha]; exact putSel_on (e := (18, 46, .bool (t392 != t396))) 16 rfl rfl (hon 18 (by kernel_rfl)) rfl
              replace ha := Aside0.mk ha
              have BK385 := Aside0.mk Q_BK385
              have BK386 := Aside0.mk Q_BK386
              have HB := Aside0.mk Q_HB
              have HO391 := Aside0.mk (Q_HO391 (hon 10 (by kernel_rfl)))
              have HO395 := Aside0.mk (Q_HO395 (hon 16 (by kernel_rfl)))
              refine value_ (w1 := w') (v := .bool (t392 != t396)) (by rfl) rfl ?_ ?_
              ·go_simp
               (try simp only [i64_w])
               try rfl
              refine hK.out _ _ ⟨v390, v394, (by rw [ha.out]; exact putSel_upk 17 hb_ rfl rfl rfl), Q_BK385, Q_BK386, Q_HB, Q_HO391, Q_HO395⟩
             exact steps_nil
            rintro b a w35 hall ⟨v390, v394, ha, Q_BK385, Q_BK386, Q_HB, Q_HO391, Q_HO395⟩
            clear BK385 BK386 HB
            have hb0_ := hall 0 (by kernel_rfl)
            have hb3_ := hall 3 (by kernel_rfl)
            have hb4_ := hall 4 (by kernel_rfl)
            have hb5_ := hall 5 (by kernel_rfl)
            have hb6_ := hall 6 (by kernel_rfl)
            have hb7_ := hall 7 (by kernel_rfl)
            have hb8_ := hall 8 (by kernel_rfl)
            have hb9_ := hall 9 (by kernel_rfl)
            have hb10_ := hall 10 (by kernel_rfl)
            have hb11_ := hall 11 (by kernel_rfl)
            have hb12_ := hall 12 (by kernel_rfl)
            have hb13_ := hall 13 (by kernel_rfl)
            have hb14_ := hall 14 (by kernel_rfl)
            have hb15_ := hall 15 (by kernel_rfl)
            have hb16_ := hall 16 (by kernel_rfl)
            have hb17_ := hall 17 (by kernel_rfl)
            have hb18_ := hall 18 (by kernel_rfl)
            have hb19_ := hall 19 (by kernel_rfl)
            subst ha
            simp only [putSel, hb0_, hb3_, hb4_, hb5_, hb6_, hb7_, hb8_, hb9_, hb10_, hb11_, hb12_, hb13_, hb14_, hb15_, hb16_, hb17_, hb18_, hb19_, if_true, Act.put, List.setIfInBounds_toArray, List.set_cons_zero, List.set_cons_succ]
            have BK385 := Aside0.mk Q_BK385
            clear Q_BK385
            have BK386 := Aside0.mk Q_BK386
            clear Q_BK386
            have HB := Aside0.mk Q_HB
            clear Q_HB
            have HO391 := Aside0.mk (Q_HO391 hb10_)
            clear Q_HO391
            have HO395 := Aside0.mk (Q_HO395 hb16_)
            clear Q_HO395 hall hb0_ hb3_ hb4_ hb5_ hb6_ hb7_ hb8_ hb9_ hb10_ hb11_ hb12_ hb13_ hb14_ hb15_ hb16_ hb17_ hb18_ hb19_
            try go_wp2
            go_roundg k3
            case measure => have := HK1.out; have := HK2.out; have := HK3.out; omega
            case rel => exact ⟨(wrap64 (x7_3 + 1)), (eW), H', ⟨by have := HK1.out; have := HK2.out; have := HK3.out; omega⟩, ⟨(bP BK385.out)⟩, ⟨(bP BK386.out)⟩, ⟨bW⟩⟩
           ·rw [if_neg c22] at H
            have c22b0 : (t392 == t396) = false := beq_eq_false_iff_ne.mpr c22
            have c22b1 : (t392 != t396) = true := bne_iff_ne.mpr c22
            obtain ⟨y397, hy397⟩ : ∃ y_ : List Int, y_ = (([x5_1, x6_2, x7_3] : List Int)) := ⟨_, rfl⟩
            replace H : (some y397) = some r := by first | (rw [hy397]; with_reducible exact H) | (have H2_ := (Option.bind_some _ _).symm.trans H; rw [hy397]; with_reducible exact H2_) | (have H2_ := (Option.bind_some _ _).symm.trans H; with_reducible exact H2_) | with_reducible exact H | (rw [hy397]; exact H) | exact H
            have Ny397 := Aside0.mk hy397
            clear hy397
            obtain rfl := Option.some.inj H
            have hnb36 := NB386_385.out
            have hnc36 := NB385_386.out
            have hcz37_0 : wr.cell? ⟨gb386, 0, none⟩ = some (.int .i64 a1_0) := (blk_cell BK386.out 0).trans rfl
            have hcz37_1 : wr.cell? ⟨gb386, 1, none⟩ = some (.int .i64 a1_1) := (blk_cell BK386.out 1).trans rfl
            have hcz37_2 : wr.cell? ⟨gb386, 2, none⟩ = some (.int .i64 a1_2) := (blk_cell BK386.out 2).trans rfl
            have hcz37_3 : wr.cell? ⟨gb386, 3, none⟩ = some (.slice A1_3 l1_3.length c1_3) := (blk_cell BK386.out 3).trans rfl
            have hfz37_0 := blk_frozen BK386.out 0
            have hfz37_1 := blk_frozen BK386.out 1
            have hfz37_2 := blk_frozen BK386.out 2
            have hfz37_3 := blk_frozen BK386.out 3
            try go_wp2
            have n0_ := Aside0.mk (blk_drew BK385.out)
            have n1_ := Aside0.mk (blk_drew BK386.out)
            have n2_ := Aside0.mk (below_drew1 HB.out)
            clear BK385 BK386 HB; have BK385 := n0_; have BK386 := n1_; have HB := n2_; clear n0_ n1_ n2_
            refine start_ (n := 20) (S := fun w' => True) (ds := []) #[false, false, false, false, false, false, false, false, false, false, false, false, false, false, false, false, false, false, false, false] (by kernel_rfl) rfl rfl trivial (fun hHeld => ?_); refine with_tabW spec_l11Fault.tab10 spec_l11Fault.bits10 (fun HT_ HW_ => ?_)
            generalize wr.drew = w38 at BK385 BK386 HB hHeld ⊢
            refine pureS (i := 1) (N := some 29) (any_of HT_.out (by kernel_rfl)) ?_
            refine pureS (i := 2) (N := some 30) (any_of HT_.out (by kernel_rfl)) ?_
            refine inv_at [0, 3, 4, 5, 6, 7, 8, 9, 10, 11, 12, 13, 14, 15, 16, 17, 18, 19] (fun a0_ b a w' => ∃ (v390 : Value) (v394 : Value), a = putSel a0_ b [(0, 28, .agg #[.int .i64 a0_0, .slice A0_1 l0_1.length c0_1]), (3, 31, .bool false), (4, 32, .bool (!false)), (5, 33, .bool (!false)), (6, 34, .agg #[.int .i64 a1_0, .int .i64 a1_1, .int .i64 a1_2, .slice A1_3 l1_3.length c1_3]), (7, 35, .int .i64 x5_1), (8, 36, .int .i64 x6_2), (9, 37, .int .i64 x7_3), (10, 38, v390), (11, 39, .int .i64 t392), (12, 40, .agg #[.int .i64 a1_0, .int .i64 a1_1, .int .i64 a1_2, .slice A1_3 l1_3.length c1_3]), (13, 41, .int .i64 x5_1), (14, 42, .int .i64 x7_3), (15, 43, .int .i64 x6_2), (16, 44, v394), (17, 45, .int .i64 t396), (18, 46, .bool (t392 != t396)), (19, 47, .bool (t392 != t396))] ∧ (w'.heap[gb385]? = some (.cells #[.int .i64 a0_0, .slice A0_1 l0_1.length c0_1] 29 (0, 0))) ∧ (w'.heap[gb386]? = some (.cells #[.int .i64 a1_0, .int .i64 a1_1, .int .i64 a1_2, .slice A1_3 l1_3.length c1_3] 48 (0, 0))) ∧ (Below w.heap.size w w') ∧ (b 10 = true → Kd.R (Kd.int .i64) 2 w' w.heap.size (fun _ => True) v390 y389) ∧ (b 16 = true → Kd.R (Kd.int .i64) 2 w' w.heap.size (fun _ => True) v394 y393)) HT_.out HW_.out (by kernel_rfl) (by kernel_rfl) ?_ ?_ ?_
            ·exact ⟨.bool false, .bool false, by simp only [putSel, Bool.false_eq_true, if_false], BK385.out, BK386.out, HB.out, fun h_ => absurd h_ (by decide), fun h_ => absurd h_ (by decide)⟩
            ·skip
             clear BK385 BK386 HB
             refine steps_cons ?_ ?_
             ·rintro b a w' ⟨v390, v394, ha, Q_BK385, Q_BK386, Q_HB, Q_HO391, Q_HO395⟩ hb_ hon hoff
              refine ⟨_, rfl, fun K hK => ?_⟩
              have e2 : a.tmps[2]? = some (.pointer (some ⟨gb385, 0, none⟩)) := by rw [ha]; exact (putSel_off rfl).trans rfl
              replace ha := Aside0.mk ha
              have BK385 := Aside0.mk Q_BK385
              have BK386 := Aside0.mk Q_BK386
              have HB := Aside0.mk Q_HB
              have hc0_ : w'.cell? ⟨gb385, 0, none⟩ = some (.int .i64 a0_0) := (blk_cell BK385.out 0).trans rfl
              have hc1_ : w'.cell? ⟨gb385, 1, none⟩ = some (.slice A0_1 l0_1.length c0_1) := (blk_cell BK385.out 1).trans rfl
              refine value_ (w1 := w') (v := .agg #[.int .i64 a0_0, .slice A0_1 l0_1.length c0_1]) (by rfl) rfl ?_ ?_
              ·go_simp
               (try simp only [i64_w])
               try rfl
              refine hK.out _ _ ⟨v390, v394, (by rw [ha.out]; exact putSel_upk 0 hb_ rfl rfl rfl), Q_BK385, Q_BK386, Q_HB, fun h0_ => absurd ((hoff 10 (by kernel_rfl)).symm.trans h0_) (by decide), fun h0_ => absurd ((hoff 16 (by kernel_rfl)).symm.trans h0_) (by decide)⟩
             refine steps_cons ?_ ?_
             ·rintro b a w' ⟨v390, v394, ha, Q_BK385, Q_BK386, Q_HB, Q_HO391, Q_HO395⟩ hb_ hon hoff
              refine ⟨_, rfl, fun K hK => ?_⟩
              have e28 : a.tmps[28]? = some (.agg #[.int .i64 a0_0, .slice A0_1 l0_1.length c0_1]) := by rw [ha]; exact putSel_on (e := (0, 28, .agg #[.int .i64 a0_0, .slice A0_1 l0_1.length c0_1])) 0 rfl rfl (hon 0 (by kernel_rfl)) rfl
              have e29 : a.tmps[29]? = some (.int .i64 x6_2) := by rw [ha]; exact (putSel_off rfl).trans rfl
              have e30 : a.tmps[30]? = some (.int .i64 x7_3) := by rw [ha]; exact (putSel_off rfl).trans rfl
              replace ha := Aside0.mk ha
              have BK385 := Aside0.mk Q_BK385
              have BK386 := Aside0.mk Q_BK386
              have HB := Aside0.mk Q_HB
              refine goes_ Tryd.func117 (by kernel_rfl) rfl #[.agg #[.int .i64 a0_0, .slice A0_1 l0_1.length c0_1], .int .i64 x6_2, .int .i64 x7_3] (by rfl) rfl rfl (by first | (simp only [List.map_toArray, List.map_cons, List.map_nil, Act.eval, Array.getD_eq_getD_getElem?, Option.getD_some, e28, e29, e30]; done) | (simp only [List.map_toArray, List.map_cons, List.map_nil, Act.eval, Array.getD_eq_getD_getElem?, Option.getD_some, e28, e29, e30]; rfl)) ?_
              with_reducible refine (spec_l02Dep.calls a0_0 _ _ l0_1 x6_2 x7_3 false _ ?side1 ?side2 A14.out).mono ?_
              (case side1 => exact cP (Kd.C_below HR0_1.out HB.out))
              (case side2 => exact HC0_1.out)
              rintro e w39 ⟨rfl, hb⟩
              refine ⟨_, rfl, ?_⟩
              have n0_ := Aside0.mk (blkB BK385.out hb)
              have n1_ := Aside0.mk (blkB BK386.out hb)
              have n2_ := Aside0.mk (below_step (bW) hb)
              clear BK385 BK386 HB; have BK385 := n0_; have BK386 := n1_; have HB := n2_; clear n0_ n1_ n2_
              (try clear hb)
              (try clear hb2)
              (try clear hk)
              (try clear hi)
              refine hK.out _ _ ⟨v390, v394, (by rw [ha.out]; exact putSel_upk 1 hb_ rfl rfl rfl), (bP BK385.out), (bP BK386.out), (bW), fun h0_ => absurd ((hoff 10 (by kernel_rfl)).symm.trans h0_) (by decide), fun h0_ => absurd ((hoff 16 (by kernel_rfl)).symm.trans h0_) (by decide)⟩
             refine steps_cons ?_ ?_
             ·rintro b a w' ⟨v390, v394, ha, Q_BK385, Q_BK386, Q_HB, Q_HO391, Q_HO395⟩ hb_ hon hoff
              refine ⟨_, rfl, fun K hK => ?_⟩
              have e31 : a.tmps[31]? = some (.bool false) := by rw [ha]; exact putSel_on (e := (3, 31, .bool false)) 1 rfl rfl (hon 3 (by kernel_rfl)) rfl
              replace ha := Aside0.mk ha
              have BK385 := Aside0.mk Q_BK385
              have BK386 := Aside0.mk Q_BK386
              have HB := Aside0.mk Q_HB
              refine value_ (w1 := w') (v := .bool (!false)) (by rfl) rfl ?_ ?_
              ·go_simp
               (try simp only [i64_w])
               try rfl
              refine hK.out _ _ ⟨v390, v394, (by rw [ha.out]; exact putSel_upk 2 hb_ rfl rfl rfl), Q_BK385, Q_BK386, Q_HB, fun h0_ => absurd ((hoff 10 (by kernel_rfl)).symm.trans h0_) (by decide), fun h0_ => absurd ((hoff 16 (by kernel_rfl)).symm.trans h0_) (by decide)⟩
             refine steps_cons ?_ ?_
             ·rintro b a w' ⟨v390, v394, ha, Q_BK385, Q_BK386, Q_HB, Q_HO391, Q_HO395⟩ hb_ hon hoff
              refine ⟨_, rfl, fun K hK => ?_⟩
              have e32 : a.tmps[32]? = some (.bool (!false)) := by rw [ha]; exact putSel_on (e := (4, 32, .bool (!false))) 2 rfl rfl (hon 4 (by kernel_rfl)) rfl
              replace ha := Aside0.mk ha
              have BK385 := Aside0.mk Q_BK385
              have BK386 := Aside0.mk Q_BK386
              have HB := Aside0.mk Q_HB
              refine value_ (w1 := w') (v := .bool (!false)) (by rfl) rfl ?_ ?_
              ·go_simp
               (try simp only [i64_w])
               try rfl
              refine hK.out _ _ ⟨v390, v394, (by rw [ha.out]; exact putSel_upk 3 hb_ rfl rfl rfl), Q_BK385, Q_BK386, Q_HB, fun h0_ => absurd ((hoff 10 (by kernel_rfl)).symm.trans h0_) (by decide), fun h0_ => absurd ((hoff 16 (by kernel_rfl)).symm.trans h0_) (by decide)⟩
             refine steps_cons ?_ ?_
             ·rintro b a w' ⟨v390, v394, ha, Q_BK385, Q_BK386, Q_HB, Q_HO391, Q_HO395⟩ hb_ hon hoff
              refine ⟨_, rfl, fun K hK => ?_⟩
              have e3 : a.tmps[3]? = some (.pointer (some ⟨gb386, 0, none⟩)) := by rw [ha]; exact (putSel_off rfl).trans rfl
              have e33 : a.tmps[33]? = some (.bool (!false)) := by rw [ha]; exact putSel_on (e := (5, 33, .bool (!false))) 3 rfl rfl (hon 5 (by kernel_rfl)) rfl
              replace ha := Aside0.mk ha
              have BK385 := Aside0.mk Q_BK385
              have BK386 := Aside0.mk Q_BK386
              have HB := Aside0.mk Q_HB
              have hc0_ : w'.cell? ⟨gb386, 0, none⟩ = some (.int .i64 a1_0) := (blk_cell BK386.out 0).trans rfl
              have hc1_ : w'.cell? ⟨gb386, 1, none⟩ = some (.int .i64 a1_1) := (blk_cell BK386.out 1).trans rfl
              have hc2_ : w'.cell? ⟨gb386, 2, none⟩ = some (.int .i64 a1_2) := (blk_cell BK386.out 2).trans rfl
              have hc3_ : w'.cell? ⟨gb386, 3, none⟩ = some (.slice A1_3 l1_3.length c1_3) := (blk_cell BK386.out 3).trans rfl
              refine value_ (w1 := w') (v := .agg #[.int .i64 a1_0, .int .i64 a1_1, .int .i64 a1_2, .slice A1_3 l1_3.length c1_3]) (wanted_on rfl rfl rfl (e33.trans (by first | rfl | (simp [*]; done)))) rfl ?_ ?_
              ·go_simp
               (try simp only [i64_w])
               try rfl
              refine hK.out _ _ ⟨v390, v394, (by rw [ha.out]; exact putSel_upk 4 hb_ rfl rfl rfl), Q_BK385, Q_BK386, Q_HB, Q_HO391, Q_HO395⟩
             refine steps_cons ?_ ?_
             ·rintro b a w' ⟨v390, v394, ha, Q_BK385, Q_BK386, Q_HB, Q_HO391, Q_HO395⟩ hb_ hon hoff
              refine ⟨_, rfl, fun K hK => ?_⟩
              have e5 : a.tmps[5]? = some (.int .i64 x5_1) := by rw [ha]; exact (putSel_off rfl).trans rfl
              have e33 : a.tmps[33]? = some (.bool (!false)) := by rw [ha]; exact putSel_on (e := (5, 33, .bool (!false))) 3 rfl rfl (hon 5 (by kernel_rfl)) rfl
              replace ha := Aside0.mk ha
              have BK385 := Aside0.mk Q_BK385
              have BK386 := Aside0.mk Q_BK386
              have HB := Aside0.mk Q_HB
              refine value_ (w1 := w') (v := .int .i64 x5_1) (wanted_on rfl rfl rfl (e33.trans (by first | rfl | (simp [*]; done)))) rfl ?_ ?_
              ·go_simp
               (try simp only [i64_w])
               try rfl
              refine hK.out _ _ ⟨v390, v394, (by rw [ha.out]; exact putSel_upk 5 hb_ rfl rfl rfl), Q_BK385, Q_BK386, Q_HB, Q_HO391, Q_HO395⟩
             refine steps_cons ?_ ?_
             ·rintro b a w' ⟨v390, v394, ha, Q_BK385, Q_BK386, Q_HB, Q_HO391, Q_HO395⟩ hb_ hon hoff
              refine ⟨_, rfl, fun K hK => ?_⟩
              have e6 : a.tmps[6]? = some (.int .i64 x6_2) := by rw [ha]; exact (putSel_off rfl).trans rfl
              have e33 : a.tmps[33]? = some (.bool (!false)) := by rw [ha]; exact putSel_on (e := (5, 33, .bool (!false))) 3 rfl rfl (hon 5 (by kernel_rfl)) rfl
              replace ha := Aside0.mk ha
              have BK385 := Aside0.mk Q_BK385
              have BK386 := Aside0.mk Q_BK386
              have HB := Aside0.mk Q_HB
              refine value_ (w1 := w') (v := .int .i64 x6_2) (wanted_on rfl rfl rfl (e33.trans (by first | rfl | (simp [*]; done)))) rfl ?_ ?_
              ·go_simp
               (try simp only [i64_w])
               try rfl
              refine hK.out _ _ ⟨v390, v394, (by rw [ha.out]; exact putSel_upk 6 hb_ rfl rfl rfl), Q_BK385, Q_BK386, Q_HB, fun h0_ => absurd ((hoff 10 (by kernel_rfl)).symm.trans h0_) (by decide), Q_HO395⟩
             refine steps_cons ?_ ?_
             ·rintro b a w' ⟨v390, v394, ha, Q_BK385, Q_BK386, Q_HB, Q_HO391, Q_HO395⟩ hb_ hon hoff
              refine ⟨_, rfl, fun K hK => ?_⟩
              have e7 : a.tmps[7]? = some (.int .i64 x7_3) := by rw [ha]; exact (putSel_off rfl).trans rfl
              have e33 : a.tmps[33]? = some (.bool (!false)) := by rw [ha]; exact putSel_on (e := (5, 33, .bool (!false))) 3 rfl rfl (hon 5 (by kernel_rfl)) rfl
              replace ha := Aside0.mk ha
              have BK385 := Aside0.mk Q_BK385
              have BK386 := Aside0.mk Q_BK386
              have HB := Aside0.mk Q_HB
              refine value_ (w1 := w') (v := .int .i64 x7_3) (wanted_on rfl rfl rfl (e33.trans (by first | rfl | (simp [*]; done)))) rfl ?_ ?_
              ·go_simp
               (try simp only [i64_w])
               try rfl
              refine hK.out _ _ ⟨v390, v394, (by rw [ha.out]; exact putSel_upk 7 hb_ rfl rfl rfl), Q_BK385, Q_BK386, Q_HB, fun h0_ => absurd ((hoff 10 (by kernel_rfl)).symm.trans h0_) (by decide), Q_HO395⟩
             refine steps_cons ?_ ?_
             ·rintro b a w' ⟨v390, v394, ha, Q_BK385, Q_BK386, Q_HB, Q_HO391, Q_HO395⟩ hb_ hon hoff
              refine ⟨_, rfl, fun K hK => ?_⟩
              have e36 : a.tmps[36]? = some (.int .i64 x6_2) := by rw [ha]; exact putSel_on (e := (8, 36, .int .i64 x6_2)) 6 rfl rfl (hon 8 (by kernel_rfl)) rfl
              have e37 : a.tmps[37]? = some (.int .i64 x7_3) := by rw [ha]; exact putSel_on (e := (9, 37, .int .i64 x7_3)) 7 rfl rfl (hon 9 (by kernel_rfl)) rfl
              have e33 : a.tmps[33]? = some (.bool (!false)) := by rw [ha]; exact putSel_on (e := (5, 33, .bool (!false))) 3 rfl rfl (hon 5 (by kernel_rfl)) rfl
              replace ha := Aside0.mk ha
              have BK385 := Aside0.mk Q_BK385
              have BK386 := Aside0.mk Q_BK386
              have HB := Aside0.mk Q_HB
              refine Kd.R_lit_step (Kd.int .i64) _ 2 ?hg (N := 38) ?hd (xs := ([x6_2, x7_3] : List Int)) (inner := [.int .i64 x6_2, .int .i64 x7_3]) (ok := fun _ => True) (okp := fun _ => True) ?hr ?hp (fun _ hk => hk) trivial (Below.refl _ _) (Nat.le_refl _) (by simp) ?_; (case hd => rfl); (case hg => first | rfl | exact wanted_on rfl rfl rfl (e33.trans (by first | rfl | (simp [*]; done)))); (case hr => first | (go_simp; done) | (go_simp; rfl)); (case hp => exact (Reps.one (show Kd.M (Kd.int .i64) _ _ _ x6_2 [.int .i64 x6_2] from rfl) (Reps.one (show Kd.M (Kd.int .i64) _ _ _ x7_3 [.int .i64 x7_3] from rfl) (Reps.none _ _))))
              intro v390 w41 ho42 hb hg_ hnew_
              clear hg_ hnew_
              (first | rw [← Ny389.out] at ho42 | (simp only [Int.reduceToNat] at ho42; rw [← Ny389.out] at ho42))
              have n0_ := Aside0.mk (Kd.R_lower ho42 (below_size (bW)))
              have n1_ := Aside0.mk (blkB BK385.out hb)
              have n2_ := Aside0.mk (blkB BK386.out hb)
              have n3_ := Aside0.mk (below_step (bW) hb)
              have z_HO395 := fun (h0_ : b 16 = true) => (show Kd.R (Kd.int .i64) 2 w41 w.heap.size (fun _ => True) v394 y393 from by first | exact (Kd.R_elder' (rP (Q_HO395 h0_)) (Kd.R_base ho42) hb) | exact Kd.R_mono (Kd.R_elder' (rP (Q_HO395 h0_)) (Kd.R_base ho42) hb) (fun _ h_ => by first | trivial | exact h_ | exact h_.1))
              clear BK385 BK386 HB; have HO391 := n0_; have BK385 := n1_; have BK386 := n2_; have HB := n3_; clear n0_ n1_ n2_ n3_ hb ho42
              refine hK.out _ _ ⟨v390, v394, (by rw [ha.out]; exact putSel_upk 8 hb_ rfl rfl rfl), (bP BK385.out), (bP BK386.out), (bW), fun _ => (rP HO391.out), z_HO395⟩
             refine steps_cons ?_ ?_
             ·rintro b a w' ⟨v390, v394, ha, Q_BK385, Q_BK386, Q_HB, Q_HO391, Q_HO395⟩ hb_ hon hoff
              refine ⟨_, rfl, fun K hK => ?_⟩
              have e34 : a.tmps[34]? = some (.agg #[.int .i64 a1_0, .int .i64 a1_1, .int .i64 a1_2, .slice A1_3 l1_3.length c1_3]) := by rw [ha]; exact putSel_on (e := (6, 34, .agg #[.int .i64 a1_0, .int .i64 a1_1, .int .i64 a1_2, .slice A1_3 l1_3.length c1_3])) 4 rfl rfl (hon 6 (by kernel_rfl)) rfl
              have e35 : a.tmps[35]? = some (.int .i64 x5_1) := by rw [ha]; exact putSel_on (e := (7, 35, .int .i64 x5_1)) 5 rfl rfl (hon 7 (by kernel_rfl)) rfl
              have e38 : a.tmps[38]? = some (v390) := by rw [ha]; exact putSel_on (e := (10, 38, v390)) 8 rfl rfl (hon 10 (by kernel_rfl)) rfl
              have e33 : a.tmps[33]? = some (.bool (!false)) := by rw [ha]; exact putSel_on (e := (5, 33, .bool (!false))) 3 rfl rfl (hon 5 (by kernel_rfl)) rfl
              replace ha := Aside0.mk ha
              have BK385 := Aside0.mk Q_BK385
              have BK386 := Aside0.mk Q_BK386
              have HB := Aside0.mk Q_HB
              have HO391 := Aside0.mk (Q_HO391 (hon 10 (by kernel_rfl)))
              obtain ⟨Ao43, co43, eo43⟩ := Kd.R_slice HO391.out
              (first | subst eo43 | (injection eo43 with f1_ f2_ f3_; have f4_ := f1_.symm; have f5_ := f3_.symm; clear f1_ f2_ f3_; subst f4_; subst f5_))
              refine goes_ Tryd.func118 (by kernel_rfl) rfl #[.agg #[.int .i64 a1_0, .int .i64 a1_1, .int .i64 a1_2, .slice A1_3 l1_3.length c1_3], .int .i64 x5_1, .slice Ao43 y389.length co43] (by first | rfl | exact wanted_on rfl rfl rfl (e33.trans (by first | rfl | (simp [*]; done)))) rfl rfl (by first | (simp only [List.map_toArray, List.map_cons, List.map_nil, Act.eval, Array.getD_eq_getD_getElem?, Option.getD_some, e34, e35, e38, e33]; done) | (simp only [List.map_toArray, List.map_cons, List.map_nil, Act.eval, Array.getD_eq_getD_getElem?, Option.getD_some, e34, e35, e38, e33]; rfl)) ?_
              with_reducible refine (spec_l11Read.calls k3 a1_0 a1_1 a1_2 _ _ l1_3 x5_1 _ _ y389 t392 _ ?side1 ?side2 ?side3 ?side4 A20.out).mono ?_
              (case side1 => exact cP (Kd.C_below HR1_3.out HB.out))
              (case side2 => exact HC1_3.out)
              (case side3 => exact cP ((Kd.R_reads' HO391.out).2.2))
              (case side4 => exact (Kd.R_reads' HO391.out).2.1)
              rintro e w44 ⟨rfl, hb⟩
              refine ⟨_, rfl, ?_⟩
              have n0_ := Aside0.mk (Kd.R_below (rP HO391.out) hb)
              have n1_ := Aside0.mk (blkB BK385.out hb)
              have n2_ := Aside0.mk (blkB BK386.out hb)
              have n3_ := Aside0.mk (below_step (bW) hb)
              have z_HO395 := fun (h0_ : b 16 = true) => (show Kd.R (Kd.int .i64) 2 w44 w.heap.size (fun _ => True) v394 y393 from by first | exact (Kd.R_below (rP (Q_HO395 h0_)) hb) | exact Kd.R_mono (Kd.R_below (rP (Q_HO395 h0_)) hb) (fun _ h_ => by first | trivial | exact h_ | exact h_.1))
              clear HO391 BK385 BK386 HB; have HO391 := n0_; have BK385 := n1_; have BK386 := n2_; have HB := n3_; clear n0_ n1_ n2_ n3_
              (try clear hb)
              (try clear hb2)
              (try clear hk)
              (try clear hi)
              refine hK.out _ _ ⟨.slice Ao43 y389.length co43, v394, (by rw [ha.out]; exact putSel_upk 9 hb_ rfl rfl rfl), (bP BK385.out), (bP BK386.out), (bW), fun _ => (rP HO391.out), z_HO395⟩
             refine steps_cons ?_ ?_
             ·rintro b a w' ⟨v390, v394, ha, Q_BK385, Q_BK386, Q_HB, Q_HO391, Q_HO395⟩ hb_ hon hoff
              refine ⟨_, rfl, fun K hK => ?_⟩
              have e3 : a.tmps[3]? = some (.pointer (some ⟨gb386, 0, none⟩)) := by rw [ha]; exact (putSel_off rfl).trans rfl
              have e33 : a.tmps[33]? = some (.bool (!false)) := by rw [ha]; exact putSel_on (e := (5, 33, .bool (!false))) 3 rfl rfl (hon 5 (by kernel_rfl)) rfl
              replace ha := Aside0.mk ha
              have BK385 := Aside0.mk Q_BK385
              have BK386 := Aside0.mk Q_BK386
              have HB := Aside0.mk Q_HB
              have hc0_ : w'.cell? ⟨gb386, 0, none⟩ = some (.int .i64 a1_0) := (blk_cell BK386.out 0).trans rfl
              have hc1_ : w'.cell? ⟨gb386, 1, none⟩ = some (.int .i64 a1_1) := (blk_cell BK386.out 1).trans rfl
              have hc2_ : w'.cell? ⟨gb386, 2, none⟩ = some (.int .i64 a1_2) := (blk_cell BK386.out 2).trans rfl
              have hc3_ : w'.cell? ⟨gb386, 3, none⟩ = some (.slice A1_3 l1_3.length c1_3) := (blk_cell BK386.out 3).trans rfl
              refine value_ (w1 := w') (v := .agg #[.int .i64 a1_0, .int .i64 a1_1, .int .i64 a1_2, .slice A1_3 l1_3.length c1_3]) (wanted_on rfl rfl rfl (e33.trans (by first | rfl | (simp [*]; done)))) rfl ?_ ?_
              ·go_simp
               (try simp only [i64_w])
               try rfl
              refine hK.out _ _ ⟨v390, v394, (by rw [ha.out]; exact putSel_upk 10 hb_ rfl rfl rfl), Q_BK385, Q_BK386, Q_HB, Q_HO391, Q_HO395⟩
             refine steps_cons ?_ ?_
             ·rintro b a w' ⟨v390, v394, ha, Q_BK385, Q_BK386, Q_HB, Q_HO391, Q_HO395⟩ hb_ hon hoff
              refine ⟨_, rfl, fun K hK => ?_⟩
              have e5 : a.tmps[5]? = some (.int .i64 x5_1) := by rw [ha]; exact (putSel_off rfl).trans rfl
              have e33 : a.tmps[33]? = some (.bool (!false)) := by rw [ha]; exact putSel_on (e := (5, 33, .bool (!false))) 3 rfl rfl (hon 5 (by kernel_rfl)) rfl
              replace ha := Aside0.mk ha
              have BK385 := Aside0.mk Q_BK385
              have BK386 := Aside0.mk Q_BK386
              have HB := Aside0.mk Q_HB
              refine value_ (w1 := w') (v := .int .i64 x5_1) (wanted_on rfl rfl rfl (e33.trans (by first | rfl | (simp [*]; done)))) rfl ?_ ?_
              ·go_simp
               (try simp only [i64_w])
               try rfl
              refine hK.out _ _ ⟨v390, v394, (by rw [ha.out]; exact putSel_upk 11 hb_ rfl rfl rfl), Q_BK385, Q_BK386, Q_HB, Q_HO391, Q_HO395⟩
             refine steps_cons ?_ ?_
             ·rintro b a w' ⟨v390, v394, ha, Q_BK385, Q_BK386, Q_HB, Q_HO391, Q_HO395⟩ hb_ hon hoff
              refine ⟨_, rfl, fun K hK => ?_⟩
              have e7 : a.tmps[7]? = some (.int .i64 x7_3) := by rw [ha]; exact (putSel_off rfl).trans rfl
              have e33 : a.tmps[33]? = some (.bool (!false)) := by rw [ha]; exact putSel_on (e := (5, 33, .bool (!false))) 3 rfl rfl (hon 5 (by kernel_rfl)) rfl
              replace ha := Aside0.mk ha
              have BK385 := Aside0.mk Q_BK385
              have BK386 := Aside0.mk Q_BK386
              have HB := Aside0.mk Q_HB
              refine value_ (w1 := w') (v := .int .i64 x7_3) (wanted_on rfl rfl rfl (e33.trans (by first | rfl | (simp [*]; done)))) rfl ?_ ?_
              ·go_simp
               (try simp only [i64_w])
               try rfl
              refine hK.out _ _ ⟨v390, v394, (by rw [ha.out]; exact putSel_upk 12 hb_ rfl rfl rfl), Q_BK385, Q_BK386, Q_HB, Q_HO391, fun h0_ => absurd ((hoff 16 (by kernel_rfl)).symm.trans h0_) (by decide)⟩
             refine steps_cons ?_ ?_
             ·rintro b a w' ⟨v390, v394, ha, Q_BK385, Q_BK386, Q_HB, Q_HO391, Q_HO395⟩ hb_ hon hoff
              refine ⟨_, rfl, fun K hK => ?_⟩
              have e6 : a.tmps[6]? = some (.int .i64 x6_2) := by rw [ha]; exact (putSel_off rfl).trans rfl
              have e33 : a.tmps[33]? = some (.bool (!false)) := by rw [ha]; exact putSel_on (e := (5, 33, .bool (!false))) 3 rfl rfl (hon 5 (by kernel_rfl)) rfl
              replace ha := Aside0.mk ha
              have BK385 := Aside0.mk Q_BK385
              have BK386 := Aside0.mk Q_BK386
              have HB := Aside0.mk Q_HB
              refine value_ (w1 := w') (v := .int .i64 x6_2) (wanted_on rfl rfl rfl (e33.trans (by first | rfl | (simp [*]; done)))) rfl ?_ ?_
              ·go_simp
               (try simp only [i64_w])
               try rfl
              refine hK.out _ _ ⟨v390, v394, (by rw [ha.out]; exact putSel_upk 13 hb_ rfl rfl rfl), Q_BK385, Q_BK386, Q_HB, Q_HO391, fun h0_ => absurd ((hoff 16 (by kernel_rfl)).symm.trans h0_) (by decide)⟩
             refine steps_cons ?_ ?_
             ·rintro b a w' ⟨v390, v394, ha, Q_BK385, Q_BK386, Q_HB, Q_HO391, Q_HO395⟩ hb_ hon hoff
              refine ⟨_, rfl, fun K hK => ?_⟩
              have e42 : a.tmps[42]? = some (.int .i64 x7_3) := by rw [ha]; exact putSel_on (e := (14, 42, .int .i64 x7_3)) 12 rfl rfl (hon 14 (by kernel_rfl)) rfl
              have e43 : a.tmps[43]? = some (.int .i64 x6_2) := by rw [ha]; exact putSel_on (e := (15, 43, .int .i64 x6_2)) 13 rfl rfl (hon 15 (by kernel_rfl)) rfl
              have e33 : a.tmps[33]? = some (.bool (!false)) := by rw [ha]; exact putSel_on (e := (5, 33, .bool (!false))) 3 rfl rfl (hon 5 (by kernel_rfl)) rfl
              replace ha := Aside0.mk ha
              have BK385 := Aside0.mk Q_BK385
              have BK386 := Aside0.mk Q_BK386
              have HB := Aside0.mk Q_HB
              refine Kd.R_lit_step (Kd.int .i64) _ 2 ?hg (N := 44) ?hd (xs := ([x7_3, x6_2] : List Int)) (inner := [.int .i64 x7_3, .int .i64 x6_2]) (ok := fun _ => True) (okp := fun _ => True) ?hr ?hp (fun _ hk => hk) trivial (Below.refl _ _) (Nat.le_refl _) (by simp) ?_; (case hd => rfl); (case hg => first | rfl | exact wanted_on rfl rfl rfl (e33.trans (by first | rfl | (simp [*]; done)))); (case hr => first | (go_simp; done) | (go_simp; rfl)); (case hp => exact (Reps.one (show Kd.M (Kd.int .i64) _ _ _ x7_3 [.int .i64 x7_3] from rfl) (Reps.one (show Kd.M (Kd.int .i64) _ _ _ x6_2 [.int .i64 x6_2] from rfl) (Reps.none _ _))))
              intro v394 w41 ho42 hb hg_ hnew_
              clear hg_ hnew_
              (first | rw [← Ny393.out] at ho42 | (simp only [Int.reduceToNat] at ho42; rw [← Ny393.out] at ho42))
              have n0_ := Aside0.mk (Kd.R_lower ho42 (below_size (bW)))
              have n1_ := Aside0.mk (blkB BK385.out hb)
              have n2_ := Aside0.mk (blkB BK386.out hb)
              have n3_ := Aside0.mk (below_step (bW) hb)
              have z_HO391 := fun (h0_ : b 10 = true) => (show Kd.R (Kd.int .i64) 2 w41 w.heap.size (fun _ => True) v390 y389 from by first | exact (Kd.R_elder' (rP (Q_HO391 h0_)) (Kd.R_base ho42) hb) | exact Kd.R_mono (Kd.R_elder' (rP (Q_HO391 h0_)) (Kd.R_base ho42) hb) (fun _ h_ => by first | trivial | exact h_ | exact h_.1))
              clear BK385 BK386 HB; have HO395 := n0_; have BK385 := n1_; have BK386 := n2_; have HB := n3_; clear n0_ n1_ n2_ n3_ hb ho42
              refine hK.out _ _ ⟨v390, v394, (by rw [ha.out]; exact putSel_upk 14 hb_ rfl rfl rfl), (bP BK385.out), (bP BK386.out), (bW), z_HO391, fun _ => (rP HO395.out)⟩
             refine steps_cons ?_ ?_
             ·rintro b a w' ⟨v390, v394, ha, Q_BK385, Q_BK386, Q_HB, Q_HO391, Q_HO395⟩ hb_ hon hoff
              refine ⟨_, rfl, fun K hK => ?_⟩
              have e40 : a.tmps[40]? = some (.agg #[.int .i64 a1_0, .int .i64 a1_1, .int .i64 a1_2, .slice A1_3 l1_3.length c1_3]) := by rw [ha]; exact putSel_on (e := (12, 40, .agg #[.int .i64 a1_0, .int .i64 a1_1, .int .i64 a1_2, .slice A1_3 l1_3.length c1_3])) 10 rfl rfl (hon 12 (by kernel_rfl)) rfl
              have e41 : a.tmps[41]? = some (.int .i64 x5_1) := by rw [ha]; exact putSel_on (e := (13, 41, .int .i64 x5_1)) 11 rfl rfl (hon 13 (by kernel_rfl)) rfl
              have e44 : a.tmps[44]? = some (v394) := by rw [ha]; exact putSel_on (e := (16, 44, v394)) 14 rfl rfl (hon 16 (by kernel_rfl)) rfl
              have e33 : a.tmps[33]? = some (.bool (!false)) := by rw [ha]; exact putSel_on (e := (5, 33, .bool (!false))) 3 rfl rfl (hon 5 (by kernel_rfl)) rfl
              replace ha := Aside0.mk ha
              have BK385 := Aside0.mk Q_BK385
              have BK386 := Aside0.mk Q_BK386
              have HB := Aside0.mk Q_HB
              have HO391 := Aside0.mk (Q_HO391 (hon 10 (by kernel_rfl)))
              have HO395 := Aside0.mk (Q_HO395 (hon 16 (by kernel_rfl)))
              obtain ⟨Ao47, co47, eo47⟩ := Kd.R_slice HO395.out
              (first | subst eo47 | (injection eo47 with f1_ f2_ f3_; have f4_ := f1_.symm; have f5_ := f3_.symm; clear f1_ f2_ f3_; subst f4_; subst f5_))
              refine goes_ Tryd.func118 (by kernel_rfl) rfl #[.agg #[.int .i64 a1_0, .int .i64 a1_1, .int .i64 a1_2, .slice A1_3 l1_3.length c1_3], .int .i64 x5_1, .slice Ao47 y393.length co47] (by first | rfl | exact wanted_on rfl rfl rfl (e33.trans (by first | rfl | (simp [*]; done)))) rfl rfl (by first | (simp only [List.map_toArray, List.map_cons, List.map_nil, Act.eval, Array.getD_eq_getD_getElem?, Option.getD_some, e40, e41, e44, e33]; done) | (simp only [List.map_toArray, List.map_cons, List.map_nil, Act.eval, Array.getD_eq_getD_getElem?, Option.getD_some, e40, e41, e44, e33]; rfl)) ?_
              with_reducible refine (spec_l11Read.calls k3 a1_0 a1_1 a1_2 _ _ l1_3 x5_1 _ _ y393 t396 _ ?side1 ?side2 ?side3 ?side4 A21.out).mono ?_
              (case side1 => exact cP (Kd.C_below HR1_3.out HB.out))
              (case side2 => exact HC1_3.out)
              (case side3 => exact cP ((Kd.R_reads' HO395.out).2.2))
              (case side4 => exact (Kd.R_reads' HO395.out).2.1)
              rintro e w48 ⟨rfl, hb⟩
              refine ⟨_, rfl, ?_⟩
              have n0_ := Aside0.mk (Kd.R_below (rP HO391.out) hb)
              have n1_ := Aside0.mk (Kd.R_below (rP HO395.out) hb)
              have n2_ := Aside0.mk (blkB BK385.out hb)
              have n3_ := Aside0.mk (blkB BK386.out hb)
              have n4_ := Aside0.mk (below_step (bW) hb)
              clear HO391 HO395 BK385 BK386 HB; have HO391 := n0_; have HO395 := n1_; have BK385 := n2_; have BK386 := n3_; have HB := n4_; clear n0_ n1_ n2_ n3_ n4_
              (try clear hb)
              (try clear hb2)
              (try clear hk)
              (try clear hi)
              refine hK.out _ _ ⟨v390, .slice Ao47 y393.length co47, (by rw [ha.out]; exact putSel_upk 15 hb_ rfl rfl rfl), (bP BK385.out), (bP BK386.out), (bW), fun _ => (rP HO391.out), fun _ => (rP HO395.out)⟩
             refine steps_cons ?_ ?_
             ·rintro b a w' ⟨v390, v394, ha, Q_BK385, Q_BK386, Q_HB, Q_HO391, Q_HO395⟩ hb_ hon hoff
              refine ⟨_, rfl, fun K hK => ?_⟩
              have e39 : a.tmps[39]? = some (.int .i64 t392) := by rw [ha]; exact putSel_on (e := (11, 39, .int .i64 t392)) 9 rfl rfl (hon 11 (by kernel_rfl)) rfl
              have e45 : a.tmps[45]? = some (.int .i64 t396) := by rw [ha]; exact putSel_on (e := (17, 45, .int .i64 t396)) 15 rfl rfl (hon 17 (by kernel_rfl)) rfl
              have e33 : a.tmps[33]? = some (.bool (!false)) := by rw [ha]; exact putSel_on (e := (5, 33, .bool (!false))) 3 rfl rfl (hon 5 (by kernel_rfl)) rfl
              replace ha := Aside0.mk ha
              have BK385 := Aside0.mk Q_BK385
              have BK386 := Aside0.mk Q_BK386
              have HB := Aside0.mk Q_HB
              have HO391 := Aside0.mk (Q_HO391 (hon 10 (by kernel_rfl)))
              have HO395 := Aside0.mk (Q_HO395 (hon 16 (by kernel_rfl)))
              refine value_ (w1 := w') (v := .bool (t392 != t396)) (wanted_on rfl rfl rfl (e33.trans (by first | rfl | (simp [*]; done)))) rfl ?_ ?_
              ·go_simp
               (try simp only [i64_w])
               try rfl
              refine hK.out _ _ ⟨v390, v394, (by rw [ha.out]; exact putSel_upk 16 hb_ rfl rfl rfl), Q_BK385, Q_BK386, Q_HB, Q_HO391, Q_HO395⟩
             refine steps_cons ?_ ?_
             ·rintro b a w' ⟨v390, v394, ha, Q_BK385, Q_BK386, Q_HB, Q_HO391, Q_HO395⟩ hb_ hon hoff
              refine ⟨_, rfl, fun K hK => ?_⟩
              have e33 : a.tmps[33]? = some (.bool (!false)) := by rw [ha]; exact putSel_on (e := (5, 33, .bool (!false))) 3 rfl rfl (hon 5 (by kernel_rfl)) rfl
              have e46 : a.tmps[46]? = some (.bool (t392 != t396)) := by rw [ha]; exact putSel_on (e := (18, 46, .bool (t392 != t396))) 16 rfl rfl (hon 18 (by kernel_rfl)) rfl
              replace ha := Aside0.mk ha
              have BK385 := Aside0.mk Q_BK385
              have BK386 := Aside0.mk Q_BK386
              have HB := Aside0.mk Q_HB
              have HO391 := Aside0.mk (Q_HO391 (hon 10 (by kernel_rfl)))
              have HO395 := Aside0.mk (Q_HO395 (hon 16 (by kernel_rfl)))
              refine value_ (w1 := w') (v := .bool (t392 != t396)) (by rfl) rfl ?_ ?_
              ·go_simp
               (try simp only [i64_w])
               try rfl
              refine hK.out _ _ ⟨v390, v394, (by rw [ha.out]; exact putSel_upk 17 hb_ rfl rfl rfl), Q_BK385, Q_BK386, Q_HB, Q_HO391, Q_HO395⟩
             exact steps_nil
            rintro b a w48 hall ⟨v390, v394, ha, Q_BK385, Q_BK386, Q_HB, Q_HO391, Q_HO395⟩
            clear BK385 BK386 HB
            have hb0_ := hall 0 (by kernel_rfl)
            have hb3_ := hall 3 (by kernel_rfl)
            have hb4_ := hall 4 (by kernel_rfl)
            have hb5_ := hall 5 (by kernel_rfl)
            have hb6_ := hall 6 (by kernel_rfl)
            have hb7_ := hall 7 (by kernel_rfl)
            have hb8_ := hall 8 (by kernel_rfl)
            have hb9_ := hall 9 (by kernel_rfl)
            have hb10_ := hall 10 (by kernel_rfl)
            have hb11_ := hall 11 (by kernel_rfl)
            have hb12_ := hall 12 (by kernel_rfl)
            have hb13_ := hall 13 (by kernel_rfl)
            have hb14_ := hall 14 (by kernel_rfl)
            have hb15_ := hall 15 (by kernel_rfl)
            have hb16_ := hall 16 (by kernel_rfl)
            have hb17_ := hall 17 (by kernel_rfl)
            have hb18_ := hall 18 (by kernel_rfl)
            have hb19_ := hall 19 (by kernel_rfl)
            subst ha
            simp only [putSel, hb0_, hb3_, hb4_, hb5_, hb6_, hb7_, hb8_, hb9_, hb10_, hb11_, hb12_, hb13_, hb14_, hb15_, hb16_, hb17_, hb18_, hb19_, if_true, Act.put, List.setIfInBounds_toArray, List.set_cons_zero, List.set_cons_succ]
            have BK385 := Aside0.mk Q_BK385
            clear Q_BK385
            have BK386 := Aside0.mk Q_BK386
            clear Q_BK386
            have HB := Aside0.mk Q_HB
            clear Q_HB
            have HO391 := Aside0.mk (Q_HO391 hb10_)
            clear Q_HO391
            have HO395 := Aside0.mk (Q_HO395 hb16_)
            clear Q_HO395 hall hb0_ hb3_ hb4_ hb5_ hb6_ hb7_ hb8_ hb9_ hb10_ hb11_ hb12_ hb13_ hb14_ hb15_ hb16_ hb17_ hb18_ hb19_
            try go_wp2_with (first | ((with_reducible refine gate_dst (N := 51) rfl ?_); (try (refine gate_guard (by rfl) ?_; dsimp only)); refine Kd.R_lit (Kd.int .i64) _ 2 ?hg (N := 51) ?hd (xs := ([x5_1, x6_2, x7_3] : List Int)) (inner := [.int .i64 x5_1, .int .i64 x6_2, .int .i64 x7_3]) (ok := fun _ => True) (okp := fun _ => True) ?hr ?hp (fun _ hk => hk) trivial (Below.refl _ _) (Nat.le_refl _) (by simp) ?_; (case hd => rfl); (case hg => rfl); (case hr => first | (go_simp; done) | (go_simp; rfl)); (case hp => exact (Reps.one (show Kd.M (Kd.int .i64) _ _ _ x5_1 [.int .i64 x5_1] from rfl) (Reps.one (show Kd.M (Kd.int .i64) _ _ _ x6_2 [.int .i64 x6_2] from rfl) (Reps.one (show Kd.M (Kd.int .i64) _ _ _ x7_3 [.int .i64 x7_3] from rfl) (Reps.none _ _))))); intro v398 w49 ho50 hb hg_ hnew_; clear hg_ hnew_; (first | rw [← Ny397.out] at ho50 | (simp only [Int.reduceToNat] at ho50; rw [← Ny397.out] at ho50)); have n0_ := Aside0.mk (Kd.R_elder' (rP HO391.out) (Kd.R_base ho50) hb); have n1_ := Aside0.mk (Kd.R_elder' (rP HO395.out) (Kd.R_base ho50) hb); have n2_ := Aside0.mk (Kd.R_lower (Kd.R_new' (Kd.R_new' ho50 (Kd.R_lt (rP HO391.out))) (Kd.R_lt (rP HO395.out))) (below_size (bW))); have n3_ := Aside0.mk (blkB BK385.out hb); have n4_ := Aside0.mk (blkB BK386.out hb); have n5_ := Aside0.mk (below_step (bW) hb); clear HO391 HO395 BK385 BK386 HB; have HO391 := n0_; have HO395 := n1_; have HO399 := n2_; have BK385 := n3_; have BK386 := n4_; have HB := n5_; clear n0_ n1_ n2_ n3_ n4_ n5_ hb ho50))
            go_ret
            exact ⟨_, eW, by (with_reducible repeat (first | apply Kd.R_alloc | apply Kd.R_drewN | apply Kd.R_drew)); exact Kd.R_mono HO399.out (fun _ hk => trivial), bW⟩
         ·rw [if_neg c13] at H
          have c13b0 : decide (x7_3 < a1_0) = false := decide_eq_false c13
          clear c13
          have H' := Aside0.mk H
          clear H
          have hnb51 := NB386_385.out
          have hnc51 := NB385_386.out
          have hcz52_0 : wr.cell? ⟨gb386, 0, none⟩ = some (.int .i64 a1_0) := (blk_cell BK386.out 0).trans rfl
          have hcz52_1 : wr.cell? ⟨gb386, 1, none⟩ = some (.int .i64 a1_1) := (blk_cell BK386.out 1).trans rfl
          have hcz52_2 : wr.cell? ⟨gb386, 2, none⟩ = some (.int .i64 a1_2) := (blk_cell BK386.out 2).trans rfl
          have hcz52_3 : wr.cell? ⟨gb386, 3, none⟩ = some (.slice A1_3 l1_3.length c1_3) := (blk_cell BK386.out 3).trans rfl
          have hfz52_0 := blk_frozen BK386.out 0
          have hfz52_1 := blk_frozen BK386.out 1
          have hfz52_2 := blk_frozen BK386.out 2
          have hfz52_3 := blk_frozen BK386.out 3
          go_wp2
          go_roundg k3
          case measure => have := HK1.out; have := HK2.out; have := HK3.out; omega
          case rel => exact ⟨(wrap64 (x6_2 + 1)), (eW), H', ⟨by have := HK1.out; have := HK2.out; have := HK3.out; omega⟩, ⟨(bP BK385.out)⟩, ⟨(bP BK386.out)⟩, ⟨bW⟩⟩
      ·rw [if_neg c10] at H
       have c10b0 : decide (x6_2 < a1_0) = false := decide_eq_false c10
       clear c10
       have H' := Aside0.mk H
       clear H
       have hnb53 := NB386_385.out
       have hnc53 := NB385_386.out
       have hcz54_0 : wr.cell? ⟨gb386, 0, none⟩ = some (.int .i64 a1_0) := (blk_cell BK386.out 0).trans rfl
       have hcz54_1 : wr.cell? ⟨gb386, 1, none⟩ = some (.int .i64 a1_1) := (blk_cell BK386.out 1).trans rfl
       have hcz54_2 : wr.cell? ⟨gb386, 2, none⟩ = some (.int .i64 a1_2) := (blk_cell BK386.out 2).trans rfl
       have hcz54_3 : wr.cell? ⟨gb386, 3, none⟩ = some (.slice A1_3 l1_3.length c1_3) := (blk_cell BK386.out 3).trans rfl
       have hfz54_0 := blk_frozen BK386.out 0
       have hfz54_1 := blk_frozen BK386.out 1
       have hfz54_2 := blk_frozen BK386.out 2
       have hfz54_3 := blk_frozen BK386.out 3
       go_wp2
       go_roundg k2
       case measure => have := HK1.out; have := HK2.out; omega
       case rel => exact ⟨(wrap64 (x5_1 + 1)), (eW), H', ⟨by have := HK1.out; have := HK2.out; omega⟩, ⟨(bP BK385.out)⟩, ⟨(bP BK386.out)⟩, ⟨bW⟩⟩
   ·rw [if_neg c6] at H
    have c6b0 : decide (x5_1 < t387) = false := decide_eq_false c6
    clear c6
    obtain rfl := Option.some.inj H
    have hnb55 := NB386_385.out
    have hnc55 := NB385_386.out
    have hcz56_0 : wr.cell? ⟨gb386, 0, none⟩ = some (.int .i64 a1_0) := (blk_cell BK386.out 0).trans rfl
    have hcz56_1 : wr.cell? ⟨gb386, 1, none⟩ = some (.int .i64 a1_1) := (blk_cell BK386.out 1).trans rfl
    have hcz56_2 : wr.cell? ⟨gb386, 2, none⟩ = some (.int .i64 a1_2) := (blk_cell BK386.out 2).trans rfl
    have hcz56_3 : wr.cell? ⟨gb386, 3, none⟩ = some (.slice A1_3 l1_3.length c1_3) := (blk_cell BK386.out 3).trans rfl
    have hfz56_0 := blk_frozen BK386.out 0
    have hfz56_1 := blk_frozen BK386.out 1
    have hfz56_2 := blk_frozen BK386.out 2
    have hfz56_3 := blk_frozen BK386.out 3
    go_wp2_with (first | ((with_reducible refine gate_callee (f := 101) rfl ?_); refine goesS (some 10) Tryd.func101 #[.agg #[.int .i64 a1_0, .int .i64 a1_1, .int .i64 a1_2, .slice A1_3 l1_3.length c1_3]] ?_; (with_reducible refine (spec_l11States.calls a1_0 a1_1 a1_2 _ _ l1_3 t387 _ ?side1 ?side2 A5.out).mono ?_); (case side1 => exact cP (Kd.C_below HR1_3.out HB.out)); (case side2 => exact HC1_3.out); rintro e w57 ⟨rfl, hb⟩; refine ⟨_, rfl, ?_⟩; have n0_ := Aside0.mk (blkB BK385.out hb); have n1_ := Aside0.mk (blkB BK386.out hb); have n2_ := Aside0.mk (below_step (bW) hb); clear BK385 BK386 HB; have BK385 := n0_; have BK386 := n1_; have HB := n2_; clear n0_ n1_ n2_; (try clear hb); (try clear hb2); (try clear hk); (try clear hi)))
    go_ret
    exact ⟨_, eW, by first | exact Kd.R_nil _ _ _ _ _ | exact Kd.N_nil _ _ _ _ _ | exact Kd.V_nil _ _ _ _ _ | exact Kd.Q_nil _ _ _ _ _ | exact Kd.S_nil _ _ _ _ _, bW⟩
end Go.Proofs.YthbaocejgjpfoaaDoor.P
end M0
