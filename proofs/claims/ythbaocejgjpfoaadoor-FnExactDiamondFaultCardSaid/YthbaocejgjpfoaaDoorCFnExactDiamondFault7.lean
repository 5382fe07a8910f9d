import Derived.ArgAppend
import Derived.Below
import Derived.BigQuiet
import Derived.Deep.AppendLies
import Derived.Deep.CutBlock
import Derived.Deep.DeepCutAuto
import Derived.Deep.Draws
import Derived.Deep.LoopGhost
import Derived.Deep.OwnRows
import Derived.Deep.QuietTactic
import Derived.Deep.RegionHeld3
import Derived.KernelRfl
import Derived.Laws.BitsLemmas
import Derived.Laws.BytesArg
import Derived.Laws.IdiomCopy
import Derived.Laws.MakeOwn
import Derived.Laws.OwnMore
import Derived.Laws.Rows
import Derived.Laws.Slices
import Derived.Laws.StructEq
import Derived.Lib.AppendStr
import Derived.Lib.ConvBytes
import Derived.Lib.SliceRun
import Derived.Maps.AppendAt
import Derived.OrdersHeld
import Derived.OwnWalk
import Derived.RowKit
import Derived.RowKit3
import Derived.Shelf.Abstract
import Derived.Shelf.Spec.TrailingZeros
import Derived.Tactics
import Derived.Test.YthbaocejgjpfoaaDoorProg
import Derived.WalkKit
import Derived.WideLaws
import Derived.Test.YthbaocejgjpfoaaDoorCFnExactDiamondFault2
import Derived.Test.YthbaocejgjpfoaaDoorCFnExactDiamondFault4
import Derived.Test.YthbaocejgjpfoaaDoorCFnExactDiamondFault5
import Derived.Test.YthbaocejgjpfoaaDoorCFnExactDiamondFault6
section M0
namespace Go.Proofs.YthbaocejgjpfoaaDoor.P
open Go.RowKit Go.Proofs.YthbaocejgjpfoaaDoor.Sh Go.Proofs.YthbaocejgjpfoaaDoorW.PrintWords Go.Proofs.YthbaocejgjpfoaaDoorW.PrintLast Go.Proofs.YthbaocejgjpfoaaDoorW.PrintMore
attribute [local go_sem] max2_int min2_int max_two min_two max_three min_three max_four min_four   -- for this text's walks alone
set_option linter.unusedVariables false
set_option linter.unusedSimpArgs false
/-! ### impl_machine_diamondFault: function 70 -/
mutual
def impl_machine_diamondFault.l0 : Nat → Int → Int → Int → Int → List Bool → List (List Int) → Int → List Int → Option (List Int)
 | 0, _, _, _, _, _, _, _, _ => none
 | k + 1, x10, x11, x429000, x429001, x429002, x429003, x430000, x430001 => if x11 < x10 then (impl_machine_diamondFault.l1 k x11 x10 x11 x430000 0 x429000 x429001 x429002 x429003 x430000 x430001) else (some ([] : List Int))
def impl_machine_diamondFault.l1 : Nat → Int → Int → Int → Int → Int → Int → Int → List Bool → List (List Int) → Int → List Int → Option (List Int)
 | 0, _, _, _, _, _, _, _, _, _, _, _ => none
 | k + 1, x5, x10, x11, x15, x16, x429000, x429001, x429002, x429003, x430000, x430001 => if x16 < x15 then (impl_machine_diamondFault.l2 k x5 x16 (wrap64 (x16 + 1)) x10 x11 x15 x16 x429000 x429001 x429002 x429003 x430000 x430001) else (impl_machine_diamondFault.l0 k x10 (wrap64 (x11 + 1)) x429000 x429001 x429002 x429003 x430000 x430001)
def impl_machine_diamondFault.l2 : Nat → Int → Int → Int → Int → Int → Int → Int → Int → Int → List Bool → List (List Int) → Int → List Int → Option (List Int)
 | 0, _, _, _, _, _, _, _, _, _, _, _, _, _ => none
 | k + 1, x5, x6, x7, x10, x11, x15, x16, x429000, x429001, x429002, x429003, x430000, x430001 => if x7 < x430000 then ((impl_depend.f x430000 x430001 x6 x7).bind fun t431 => (if t431 = true then (impl_machine_diamondFault.l2 k x5 x6 (wrap64 (x7 + 1)) x10 x11 x15 x16 x429000 x429001 x429002 x429003 x430000 x430001) else ((impl_machine_step.f x429000 x429001 x429002 x429003 x5 x6).bind fun t432 => ((impl_machine_step.f x429000 x429001 x429002 x429003 t432 x7).bind fun t433 => ((impl_machine_step.f x429000 x429001 x429002 x429003 x5 x7).bind fun t434 => ((impl_machine_step.f x429000 x429001 x429002 x429003 t434 x6).bind fun t435 => (if t433 = t435 then (impl_machine_diamondFault.l2 k x5 x6 (wrap64 (x7 + 1)) x10 x11 x15 x16 x429000 x429001 x429002 x429003 x430000 x430001) else (some (([x5, x6, x7] : List Int)))))))))) else (impl_machine_diamondFault.l1 k x5 x10 x11 x15 (wrap64 (x16 + 1)) x429000 x429001 x429002 x429003 x430000 x430001)
end
def impl_machine_diamondFault.f (k : Nat) (a0_0 : Int) (a0_1 : Int) (l0_2 : List Bool) (l0_3 : List (List Int)) (a1_0 : Int) (l1_1 : List Int) : Option (List Int) := (impl_length_int64_123.f l0_3).bind fun t430 => (impl_machine_diamondFault.l0 k t430 0 a0_0 a0_1 l0_2 l0_3 a1_0 l1_1)
def impl_machine_diamondFault.T10 : Bool × List (List Nat × List Nat) := (true, [([], []), ([], []), ([], []), ([0, 1, 2], [0, 1, 2]), ([3], [3]), ([4, 3], [4]), ([5], [5]), ([5], [5]), ([5], [5]), ([5], [5]), ([7, 8, 9, 5, 5], [5, 7, 8, 9]), ([5], [5]), ([6, 10, 11, 10, 5], [5, 6, 10, 11]), ([5], [5]), ([5], [5]), ([5], [5]), ([5], [5]), ([14, 15, 16, 12, 5], [5, 14, 15, 16]), ([5], [5]), ([13, 17, 18, 17, 5], [5, 13, 17, 18]), ([12, 19, 5], [5, 12, 19]), ([5, 20], [5, 20])])
def impl_machine_diamondFault.B10 : List Nat := [0, 0, 0, 7, 15, 31, 63, 63, 63, 63, 959, 63, 4095, 63, 63, 63, 63, 122879, 63, 524287, 1048575, 2097151]
theorem impl_machine_diamondFault.tab10 : rtab .any (opsOf Tryd.f70 10) = impl_machine_diamondFault.T10 := by kernel_rfl
theorem impl_machine_diamondFault.bits10 : waitsOk impl_machine_diamondFault.T10.2 impl_machine_diamondFault.B10 = true := by kernel_rfl
set_option maxHeartbeats 8000000 in
set_option maxRecDepth 100000 in
theorem impl_machine_diamondFault.calls (k : Nat) (a0_0 : Int) (a0_1 : Int) (A0_2 : Option Addr) (c0_2 : Nat) (l0_2 : List Bool) (A0_3 : Option Addr) (c0_3 : Nat) (l0_3 : List (List Int)) (a1_0 : Int) (A1_1 : Option Addr) (c1_1 : Nat) (l1_1 : List Int) (r : List Int) (w : World) (hr0_2 : Kd.C Kd.bool w A0_2 l0_2.length l0_2) (hc0_2 : l0_2.length ≤ c0_2) (hr0_3 : Kd.C (Kd.slice 2 (Kd.int .i64)) w A0_3 l0_3.length l0_3) (hc0_3 : l0_3.length ≤ c0_3) (hr1_1 : Kd.C (Kd.int .i64) w A1_1 l1_1.length l1_1) (hc1_1 : l1_1.length ≤ c1_1) (h : impl_machine_diamondFault.f k a0_0 a0_1 l0_2 l0_3 a1_0 l1_1 = some r) :
  Calls Tryd.prog 70 #[.agg #[.int .i64 a0_0, .int .i64 a0_1, .slice A0_2 l0_2.length c0_2, .slice A0_3 l0_3.length c0_3], .agg #[.int .i64 a1_0, .slice A1_1 l1_1.length c1_1]] w fun e w' => ∃ v0_ : Value, e = .returned (v0_) ∧ Kd.R (Kd.int .i64) 2 w' w.heap.size (fun _ => True) v0_ r ∧ Below w.heap.size w w' ∧ NilOf v0_ r := by
 have hu100 := Tryd.underlying100
 have hu29 := Tryd.underlying29
 have HR0_2 := Aside0.mk hr0_2
 have HC0_2 := Aside0.mk hc0_2
 clear hr0_2 hc0_2
 have HR0_3 := Aside0.mk hr0_3
 have HC0_3 := Aside0.mk hc0_3
 clear hr0_3 hc0_3
 have HR1_1 := Aside0.mk hr1_1
 have HC1_1 := Aside0.mk hc1_1
 clear hr1_1 hc1_1
 have HB := Aside0.mk (Below.refl w.heap.size w)
 have H : ((impl_length_int64_123.f l0_3).bind fun t430 => (impl_machine_diamondFault.l0 k t430 0 a0_0 a0_1 l0_2 l0_3 a1_0 l1_1)) = some r := h
 clear h
 replace H := Option.bind_eq_some_iff.mp H
 obtain ⟨t430, A30, H⟩ := H
 replace H : (impl_machine_diamondFault.l0 k t430 0 a0_0 a0_1 l0_2 l0_3 a1_0 l1_1) = some r := H
 have A3 := Aside0.mk A30
 clear A30
 have H' := Aside0.mk H
 clear H
 go_enter Tryd.func70, Tryd.ntmps70
 go_wp2_with (first | ((with_reducible refine gate_dst (N := 2) rfl ?_); refine boxS (N := 2) (cs := #[.int .i64 a0_0, .int .i64 a0_1, .slice A0_2 l0_2.length c0_2, .slice A0_3 l0_3.length c0_3]) (t := 100) ?_; intro gb428 hg w4 hbox hb; have n0_ := Aside0.mk (below_step (bW) hb); have n1_ := Aside0.mk (hbox); have n2_ := geW (w := w) hg; have n3_ := geW (w := w) hg; clear HB; have HB := n0_; have BK428 := n1_; have GW428 := n2_; have GE428 := n3_; clear n0_ n1_ n2_ n3_ hb hbox hg) | ((with_reducible refine gate_dst (N := 3) rfl ?_); refine boxS (N := 3) (cs := #[.int .i64 a1_0, .slice A1_1 l1_1.length c1_1]) (t := 29) ?_; intro gb429 hg w5 hbox hb; have n0_ := Aside0.mk (blkB BK428.out hb); have n1_ := Aside0.mk (below_step (bW) hb); have n2_ := Aside0.mk (hbox); have n3_ := geW (w := w) hg; have n4_ := geW (w := w) hg; have n5_ := Aside0.mk ((by rw [hg]; exact Nat.ne_of_lt (blk_lt (g := gb428) (o := .cells #[.int .i64 a0_0, .int .i64 a0_1, .slice A0_2 l0_2.length c0_2, .slice A0_3 l0_3.length c0_3] 100 (0, 0)) (bP BK428.out)) : gb428 ≠ gb429)); have n6_ := Aside0.mk ((by rw [hg]; exact Nat.ne_of_gt (blk_lt (g := gb428) (o := .cells #[.int .i64 a0_0, .int .i64 a0_1, .slice A0_2 l0_2.length c0_2, .slice A0_3 l0_3.length c0_3] 100 (0, 0)) (bP BK428.out)) : gb429 ≠ gb428)); clear BK428 HB; have BK428 := n0_; have HB := n1_; have BK429 := n2_; have GW429 := n3_; have GE429 := n4_; have NB428_429 := n5_; have NB429_428 := n6_; clear n0_ n1_ n2_ n3_ n4_ n5_ n6_ hb hbox hg; have hnb6 := NB428_429.out; have hnc6 := NB429_428.out; obtain ⟨hcz7_0, hcz7_1, hcz7_2, hcz7_3⟩ := cells4 BK428.out; obtain ⟨hfz7_0, hfz7_1, hfz7_2, hfz7_3⟩ := frz4 BK428.out) | ((with_reducible refine gate_callee (f := 123) rfl ?_); refine goesS (some 10) Tryd.func123 #[.slice A0_3 l0_3.length c0_3] ?_; (with_reducible refine (impl_length_int64_123.calls _ _ l0_3 t430 _ ?side1 ?side2 A3.out).mono ?_); (case side1 => exact cP (Kd.C_below HR0_3.out HB.out)); (case side2 => exact HC0_3.out); rintro e w' ⟨rfl, ⟨nd, rfl⟩⟩; refine ⟨_, rfl, ?_⟩))
 go_loopg [11] k (fun kq v11 w' => ∃ (x11_1 : Int), v11 = .int .i64 x11_1 ∧ Aside0 (impl_machine_diamondFault.l0 kq t430 x11_1 a0_0 a0_1 l0_2 l0_3 a1_0 l1_1 = some r) ∧ Aside0 (kq ≤ k) ∧ Aside0 (w'.heap[gb428]? = some (.cells #[.int .i64 a0_0, .int .i64 a0_1, (.slice A0_2 l0_2.length c0_2), (.slice A0_3 l0_3.length c0_3)] 100 (0, 0))) ∧ Aside0 (w'.heap[gb429]? = some (.cells #[.int .i64 a1_0, (.slice A1_1 l1_1.length c1_1)] 29 (0, 0))) ∧ Aside0 (Below w.heap.size w w'))
 case atStart => exact ⟨(0), (eW), H', ⟨Nat.le_refl _⟩, ⟨(bP BK428.out)⟩, ⟨(bP BK429.out)⟩, ⟨bW⟩⟩
 case round =>
  clear H'
  try clear c1
  try clear p2
  try clear c6
  try clear c7
  try clear hcz7_0
  try clear hcz7_1
  try clear hcz7_2
  try clear hcz7_3
  try clear hfz7_0
  try clear hfz7_1
  try clear hfz7_2
  try clear hfz7_3
  obtain ⟨x11_1, rfl, HA, HK1, BK428, BK429, HB⟩ := hrel
  cases gk with
  | zero => exact absurd HA.out (by simp [impl_machine_diamondFault.l0])
  | succ k1 =>
   have H := HA.out
   clear HA
   simp only [impl_machine_diamondFault.l0] at H
   by_cases c8 : x11_1 < t430
   ·rw [if_pos c8] at H
    have c8b0 : decide (x11_1 < t430) = true := decide_eq_true c8
    clear c8
    have H' := Aside0.mk H
    clear H
    have hnb9 := NB429_428.out
    have hnc9 := NB428_429.out
    have hcz10_0 : wr.cell? ⟨gb429, 0, none⟩ = some (.int .i64 a1_0) := (blk_cell BK429.out 0).trans rfl
    have hcz10_1 : wr.cell? ⟨gb429, 1, none⟩ = some (.slice A1_1 l1_1.length c1_1) := (blk_cell BK429.out 1).trans rfl
    have hfz10_0 := blk_frozen BK429.out 0
    have hfz10_1 := blk_frozen BK429.out 1
    go_wp2
    go_loopg [16] k1 (fun kq v16 w' => ∃ (x16_2 : Int), v16 = .int .i64 x16_2 ∧ Aside0 (impl_machine_diamondFault.l1 kq x11_1 t430 x11_1 a1_0 x16_2 a0_0 a0_1 l0_2 l0_3 a1_0 l1_1 = some r) ∧ Aside0 (kq ≤ k1) ∧ Aside0 (w'.heap[gb428]? = some (.cells #[.int .i64 a0_0, .int .i64 a0_1, (.slice A0_2 l0_2.length c0_2), (.slice A0_3 l0_3.length c0_3)] 100 (0, 0))) ∧ Aside0 (w'.heap[gb429]? = some (.cells #[.int .i64 a1_0, (.slice A1_1 l1_1.length c1_1)] 29 (0, 0))) ∧ Aside0 (Below w.heap.size w w'))
    case atStart => exact ⟨(0), (eW), H', ⟨Nat.le_refl _⟩, ⟨(bP BK428.out)⟩, ⟨(bP BK429.out)⟩, ⟨bW⟩⟩
    case round =>
     clear H'
     try clear c1
     try clear p2
     try clear c6
     try clear c7
     try clear c8
     try clear c8b0
     try clear c9
     try clear hcz10_0
     try clear hcz10_1
     try clear hcz7_0
     try clear hcz7_1
     try clear hcz7_2
     try clear hcz7_3
     try clear hfz10_0
     try clear hfz10_1
     try clear hfz7_0
     try clear hfz7_1
     try clear hfz7_2
     try clear hfz7_3
     try clear p2
     obtain ⟨x16_2, rfl, HA, HK2, BK428, BK429, HB⟩ := hrel
     cases gk with
     | zero => exact absurd HA.out (by simp [impl_machine_diamondFault.l1])
     | succ k2 =>
      have H := HA.out
      clear HA
      simp only [impl_machine_diamondFault.l1] at H
      by_cases c11 : x16_2 < a1_0
      ·rw [if_pos c11] at H
       have c11b0 : decide (x16_2 < a1_0) = true := decide_eq_true c11
       clear c11
       have H' := Aside0.mk H
       clear H
       go_wp2
       go_loopg [7] k2 (fun kq v7 w' => ∃ (x7_3 : Int), v7 = .int .i64 x7_3 ∧ Aside0 (impl_machine_diamondFault.l2 kq x11_1 x16_2 x7_3 t430 x11_1 a1_0 x16_2 a0_0 a0_1 l0_2 l0_3 a1_0 l1_1 = some r) ∧ Aside0 (kq ≤ k2) ∧ Aside0 (w'.heap[gb428]? = some (.cells #[.int .i64 a0_0, .int .i64 a0_1, (.slice A0_2 l0_2.length c0_2), (.slice A0_3 l0_3.length c0_3)] 100 (0, 0))) ∧ Aside0 (w'.heap[gb429]? = some (.cells #[.int .i64 a1_0, (.slice A1_1 l1_1.length c1_1)] 29 (0, 0))) ∧ Aside0 (Below w.heap.size w w'))
       case atStart => exact ⟨(wrap64 (x16_2 + 1)), (eW), H', ⟨Nat.le_refl _⟩, ⟨(bP BK428.out)⟩, ⟨(bP BK429.out)⟩, ⟨bW⟩⟩
       case round =>
        clear H'
        try clear c1
        try clear p2
        try clear c6
        try clear p6
        try clear c7
        try clear c8
        try clear c8b0
        try clear c9
        try clear c11
        try clear c11b0
        try clear hcz10_0
        try clear hcz10_1
        try clear hcz7_0
        try clear hcz7_1
        try clear hcz7_2
        try clear hcz7_3
        try clear hfz10_0
        try clear hfz10_1
        try clear hfz7_0
        try clear hfz7_1
        try clear hfz7_2
        try clear hfz7_3
        try clear p2
        obtain ⟨x7_3, rfl, HA, HK3, BK428, BK429, HB⟩ := hrel
        cases gk with
        | zero => exact absurd HA.out (by simp [impl_machine_diamondFault.l2])
        | succ k3 =>
         have H := HA.out
         clear HA
         simp only [impl_machine_diamondFault.l2] at H
         by_cases c12 : x7_3 < a1_0
         ·rw [if_pos c12] at H
          have c12b0 : decide (x7_3 < a1_0) = true := decide_eq_true c12
          clear c12
          replace H := Option.bind_eq_some_iff.mp H
          obtain ⟨t431, A130, H⟩ := H
          replace H : (if t431 = true then (impl_machine_diamondFault.l2 k3 x11_1 x16_2 (wrap64 (x7_3 + 1)) t430 x11_1 a1_0 x16_2 a0_0 a0_1 l0_2 l0_3 a1_0 l1_1) else ((impl_machine_step.f a0_0 a0_1 l0_2 l0_3 x11_1 x16_2).bind fun t432 => ((impl_machine_step.f a0_0 a0_1 l0_2 l0_3 t432 x7_3).bind fun t433 => ((impl_machine_step.f a0_0 a0_1 l0_2 l0_3 x11_1 x7_3).bind fun t434 => ((impl_machine_step.f a0_0 a0_1 l0_2 l0_3 t434 x16_2).bind fun t435 => (if t433 = t435 then (impl_machine_diamondFault.l2 k3 x11_1 x16_2 (wrap64 (x7_3 + 1)) t430 x11_1 a1_0 x16_2 a0_0 a0_1 l0_2 l0_3 a1_0 l1_1) else (some (([x11_1, x16_2, x7_3] : List Int))))))))) = some r := H
          have A13 := Aside0.mk A130
          clear A130
          by_cases c14 : t431 = true
          ·subst c14
           have H1 : (impl_machine_diamondFault.l2 k3 x11_1 x16_2 (wrap64 (x7_3 + 1)) t430 x11_1 a1_0 x16_2 a0_0 a0_1 l0_2 l0_3 a1_0 l1_1) = some r := by rw [if_pos rfl] at H; exact H
           clear H
           have H := H1
           clear H1
           have H' := Aside0.mk H
           clear H
           have hnb15 := NB429_428.out
           have hnc15 := NB428_429.out
           have hcz16_0 : wr.cell? ⟨gb429, 0, none⟩ = some (.int .i64 a1_0) := (blk_cell BK429.out 0).trans rfl
           have hcz16_1 : wr.cell? ⟨gb429, 1, none⟩ = some (.slice A1_1 l1_1.length c1_1) := (blk_cell BK429.out 1).trans rfl
           have hfz16_0 := blk_frozen BK429.out 0
           have hfz16_1 := blk_frozen BK429.out 1
           try go_wp2
           have n0_ := Aside0.mk (blk_drew BK428.out)
           have n1_ := Aside0.mk (blk_drew BK429.out)
           have n2_ := Aside0.mk (below_drew1 HB.out)
           clear BK428 BK429 HB; have BK428 := n0_; have BK429 := n1_; have HB := n2_; clear n0_ n1_ n2_
           refine start_ (n := 22) (S := fun w' => w'.cell? ⟨gb429, 0, none⟩ = some (.int .i64 a1_0) ∧ w'.cell? ⟨gb429, 1, none⟩ = some (.slice A1_1 l1_1.length c1_1)) (ds := []) #[false, false, false, false, false, false, false, false, false, false, false, false, false, false, false, false, false, false, false, false, false, false] (by kernel_rfl) rfl rfl ⟨(blk_cell BK429.out 0).trans rfl, (blk_cell BK429.out 1).trans rfl⟩ (fun hHeld => ?_); refine with_tabW impl_machine_diamondFault.tab10 impl_machine_diamondFault.bits10 (fun HT_ HW_ => ?_)
           generalize wr.drew = w17 at BK428 BK429 HB hHeld ⊢
           refine pureS (i := 1) (N := some 28) (any_of HT_.out (by kernel_rfl)) ?_
           refine pureS (i := 2) (N := some 29) (any_of HT_.out (by kernel_rfl)) ?_
           refine takeS (i := 0) (N := some 27) (take_ofW HT_.out HW_.out (by kernel_rfl)) hHeld ?_
           refine one_ (i := 3) (N := some 30) #[true, true, true, true, false, false, false, false, false, false, false, false, false, false, false, false, false, false, false, false, false, false] rfl rfl (one_of HT_.out (by kernel_rfl)) (by decide) (fun K hK => ?_)
           refine goes_ Tryd.func124 (by kernel_rfl) rfl #[.agg #[.int .i64 a1_0, .slice A1_1 l1_1.length c1_1], .int .i64 x16_2, .int .i64 x7_3] (by rfl) rfl rfl (by (try simp only [List.map_toArray, List.map_cons, List.map_nil]); first | done | rfl | (simp only [List.length_drop, List.length_take]; rfl)) ?_
           with_reducible refine (impl_depend.calls a1_0 _ _ l1_1 x16_2 x7_3 true _ ?side1 ?side2 A13.out).mono ?_
           (case side1 => exact cP (Kd.C_below HR1_1.out HB.out))
           (case side2 => exact HC1_1.out)
           rintro e w18 ⟨rfl, hb⟩
           refine ⟨_, rfl, ?_⟩
           have n0_ := Aside0.mk (blkB BK428.out hb)
           have n1_ := Aside0.mk (blkB BK429.out hb)
           have n2_ := Aside0.mk (below_step (bW) hb)
           clear BK428 BK429 HB; have BK428 := n0_; have BK429 := n1_; have HB := n2_; clear n0_ n1_ n2_
           (try clear hb)
           (try clear hb2)
           (try clear hk)
           (try clear hi)
           refine hK.out _ _ ⟨(blk_cell BK429.out 0).trans rfl, (blk_cell BK429.out 1).trans rfl⟩ (fun hHeld => ?_)
           clear hK K
           refine norm_ (a' := ?_) ?_ ?_
           rotate_left
           ·show Act.put _ (some 30) _ = _
            simp only [Act.put, List.setIfInBounds_toArray, List.set_cons_zero, List.set_cons_succ, i64_w, i32_w]
            rfl
           refine pureS (i := 4) (N := some 31) (any_of HT_.out (by kernel_rfl)) ?_
           refine pureS (i := 5) (N := some 32) (any_of HT_.out (by kernel_rfl)) ?_
           refine pureU (i := 6) (N := some 33) (any_of HT_.out (by kernel_rfl)) ?_
           refine pureU (i := 7) (N := some 34) (any_of HT_.out (by kernel_rfl)) ?_
           refine pureU (i := 8) (N := some 35) (any_of HT_.out (by kernel_rfl)) ?_
           refine pureU (i := 9) (N := some 36) (any_of HT_.out (by kernel_rfl)) ?_
           refine pureU (i := 10) (N := some 37) (any_of HT_.out (by kernel_rfl)) ?_
           refine pureU (i := 11) (N := some 38) (any_of HT_.out (by kernel_rfl)) ?_
           refine pureU (i := 12) (N := some 39) (any_of HT_.out (by kernel_rfl)) ?_
           refine pureU (i := 13) (N := some 40) (any_of HT_.out (by kernel_rfl)) ?_
           refine pureU (i := 14) (N := some 41) (any_of HT_.out (by kernel_rfl)) ?_
           refine pureU (i := 15) (N := some 42) (any_of HT_.out (by kernel_rfl)) ?_
           refine pureU (i := 16) (N := some 43) (any_of HT_.out (by kernel_rfl)) ?_
           refine pureU (i := 17) (N := some 44) (any_of HT_.out (by kernel_rfl)) ?_
           refine pureU (i := 18) (N := some 45) (any_of HT_.out (by kernel_rfl)) ?_
           refine pureU (i := 19) (N := some 46) (any_of HT_.out (by kernel_rfl)) ?_
           refine pureU (i := 20) (N := some 47) (any_of HT_.out (by kernel_rfl)) ?_
           refine pureS (i := 21) (N := some 48) (any_of HT_.out (by kernel_rfl)) ?_
           refine done_ (done_of HT_.out (by kernel_rfl)) ?_
           try go_wp2
           go_roundg k3
           case measure => have := HK1.out; have := HK2.out; have := HK3.out; omega
           case rel => exact ⟨(wrap64 (x7_3 + 1)), (eW), H', ⟨by have := HK1.out; have := HK2.out; have := HK3.out; omega⟩, ⟨(bP BK428.out)⟩, ⟨(bP BK429.out)⟩, ⟨bW⟩⟩
          ·replace c14 := Bool.eq_false_iff.mpr c14
           subst c14
           have H1 : ((impl_machine_step.f a0_0 a0_1 l0_2 l0_3 x11_1 x16_2).bind fun t432 => ((impl_machine_step.f a0_0 a0_1 l0_2 l0_3 t432 x7_3).bind fun t433 => ((impl_machine_step.f a0_0 a0_1 l0_2 l0_3 x11_1 x7_3).bind fun t434 => ((impl_machine_step.f a0_0 a0_1 l0_2 l0_3 t434 x16_2).bind fun t435 => (if t433 = t435 then (impl_machine_diamondFault.l2 k3 x11_1 x16_2 (wrap64 (x7_3 + 1)) t430 x11_1 a1_0 x16_2 a0_0 a0_1 l0_2 l0_3 a1_0 l1_1) else (some (([x11_1, x16_2, x7_3] : List Int)))))))) = some r := by rw [if_neg (show ¬ (false = true) by decide)] at H; exact H
           clear H
           have H := H1
           clear H1
           replace H := Option.bind_eq_some_iff.mp H
           obtain ⟨t432, A190, H⟩ := H
           replace H : ((impl_machine_step.f a0_0 a0_1 l0_2 l0_3 t432 x7_3).bind fun t433 => ((impl_machine_step.f a0_0 a0_1 l0_2 l0_3 x11_1 x7_3).bind fun t434 => ((impl_machine_step.f a0_0 a0_1 l0_2 l0_3 t434 x16_2).bind fun t435 => (if t433 = t435 then (impl_machine_diamondFault.l2 k3 x11_1 x16_2 (wrap64 (x7_3 + 1)) t430 x11_1 a1_0 x16_2 a0_0 a0_1 l0_2 l0_3 a1_0 l1_1) else (some (([x11_1, x16_2, x7_3] : List Int))))))) = some r := H
           have A19 := Aside0.mk A190
           clear A190
           replace H := Option.bind_eq_some_iff.mp H
           obtain ⟨t433, A200, H⟩ := H
           replace H : ((impl_machine_step.f a0_0 a0_1 l0_2 l0_3 x11_1 x7_3).bind fun t434 => ((impl_machine_step.f a0_0 a0_1 l0_2 l0_3 t434 x16_2).bind fun t435 => (if t433 = t435 then (impl_machine_diamondFault.l2 k3 x11_1 x16_2 (wrap64 (x7_3 + 1)) t430 x11_1 a1_0 x16_2 a0_0 a0_1 l0_2 l0_3 a1_0 l1_1) else (some (([x11_1, x16_2, x7_3] : List Int)))))) = some r := H
           have A20 := Aside0.mk A200
           clear A200
           replace H := Option.bind_eq_some_iff.mp H
           obtain ⟨t434, A210, H⟩ := H
           replace H : ((impl_machine_step.f a0_0 a0_1 l0_2 l0_3 t434 x16_2).bind fun t435 => (if t433 = t435 then (impl_machine_diamondFault.l2 k3 x11_1 x16_2 (wrap64 (x7_3 + 1)) t430 x11_1 a1_0 x16_2 a0_0 a0_1 l0_2 l0_3 a1_0 l1_1) else (some (([x11_1, x16_2, x7_3] : List Int))))) = some r := H
           have A21 := Aside0.mk A210
           clear A210
           replace H := Option.bind_eq_some_iff.mp H
           obtain ⟨t435, A220, H⟩ := H
           replace H : (if t433 = t435 then (impl_machine_diamondFault.l2 k3 x11_1 x16_2 (wrap64 (x7_3 + 1)) t430 x11_1 a1_0 x16_2 a0_0 a0_1 l0_2 l0_3 a1_0 l1_1) else (some (([x11_1, x16_2, x7_3] : List Int)))) = some r := H
           have A22 := Aside0.mk A220
           clear A220
           by_cases c23 : t433 = t435
           ·rw [if_pos c23] at H
            have c23b0 : (t433 == t435) = true := beq_iff_eq.mpr c23
            have c23b1 : (t433 != t435) = false := bne_eq_false_iff_eq.mpr c23
            clear c23
            have H' := Aside0.mk H
            clear H
            have hnb24 := NB429_428.out
            have hnc24 := NB428_429.out
            have hcz25_0 : wr.cell? ⟨gb429, 0, none⟩ = some (.int .i64 a1_0) := (blk_cell BK429.out 0).trans rfl
            have hcz25_1 : wr.cell? ⟨gb429, 1, none⟩ = some (.slice A1_1 l1_1.length c1_1) := (blk_cell BK429.out 1).trans rfl
            have hfz25_0 := blk_frozen BK429.out 0
            have hfz25_1 := blk_frozen BK429.out 1
            try go_wp2
            have n0_ := Aside0.mk (blk_drew BK428.out)
            have n1_ := Aside0.mk (blk_drew BK429.out)
            have n2_ := Aside0.mk (below_drew1 HB.out)
            clear BK428 BK429 HB; have BK428 := n0_; have BK429 := n1_; have HB := n2_; clear n0_ n1_ n2_
            refine start_ (n := 22) (S := fun w' => w'.cell? ⟨gb429, 0, none⟩ = some (.int .i64 a1_0) ∧ w'.cell? ⟨gb429, 1, none⟩ = some (.slice A1_1 l1_1.length c1_1) ∧ w'.cell? ⟨gb428, 0, none⟩ = some (.int .i64 a0_0) ∧ w'.cell? ⟨gb428, 1, none⟩ = some (.int .i64 a0_1) ∧ w'.cell? ⟨gb428, 2, none⟩ = some (.slice A0_2 l0_2.length c0_2) ∧ w'.cell? ⟨gb428, 3, none⟩ = some (.slice A0_3 l0_3.length c0_3)) (ds := []) #[false, false, false, false, false, false, false, false, false, false, false, false, false, false, false, false, false, false, false, false, false, false] (by kernel_rfl) rfl rfl ⟨(blk_cell BK429.out 0).trans rfl, (blk_cell BK429.out 1).trans rfl, (blk_cell BK428.out 0).trans rfl, (blk_cell BK428.out 1).trans rfl, (blk_cell BK428.out 2).trans rfl, (blk_cell BK428.out 3).trans rfl⟩ (fun hHeld => ?_); refine with_tabW impl_machine_diamondFault.tab10 impl_machine_diamondFault.bits10 (fun HT_ HW_ => ?_)
            generalize wr.drew = w26 at BK428 BK429 HB hHeld ⊢
            refine pureS (i := 1) (N := some 28) (any_of HT_.out (by kernel_rfl)) ?_
            refine pureS (i := 2) (N := some 29) (any_of HT_.out (by kernel_rfl)) ?_
            refine takeS (i := 0) (N := some 27) (take_ofW HT_.out HW_.out (by kernel_rfl)) hHeld ?_
            refine one_ (i := 3) (N := some 30) #[true, true, true, true, false, false, false, false, false, false, false, false, false, false, false, false, false, false, false, false, false, false] rfl rfl (one_of HT_.out (by kernel_rfl)) (by decide) (fun K hK => ?_)
            refine goes_ Tryd.func124 (by kernel_rfl) rfl #[.agg #[.int .i64 a1_0, .slice A1_1 l1_1.length c1_1], .int .i64 x16_2, .int .i64 x7_3] (by rfl) rfl rfl (by (try simp only [List.map_toArray, List.map_cons, List.map_nil]); first | done | rfl | (simp only [List.length_drop, List.length_take]; rfl)) ?_
            with_reducible refine (impl_depend.calls a1_0 _ _ l1_1 x16_2 x7_3 false _ ?side1 ?side2 A13.out).mono ?_
            (case side1 => exact cP (Kd.C_below HR1_1.out HB.out))
            (case side2 => exact HC1_1.out)
            rintro e w27 ⟨rfl, hb⟩
            refine ⟨_, rfl, ?_⟩
            have n0_ := Aside0.mk (blkB BK428.out hb)
            have n1_ := Aside0.mk (blkB BK429.out hb)
            have n2_ := Aside0.mk (below_step (bW) hb)
            clear BK428 BK429 HB; have BK428 := n0_; have BK429 := n1_; have HB := n2_; clear n0_ n1_ n2_
            (try clear hb)
            (try clear hb2)
            (try clear hk)
            (try clear hi)
            refine hK.out _ _ ⟨(blk_cell BK429.out 0).trans rfl, (blk_cell BK429.out 1).trans rfl, (blk_cell BK428.out 0).trans rfl, (blk_cell BK428.out 1).trans rfl, (blk_cell BK428.out 2).trans rfl, (blk_cell BK428.out 3).trans rfl⟩ (fun hHeld => ?_)
            clear hK K
            refine norm_ (a' := ?_) ?_ ?_
            rotate_left
            ·show Act.put _ (some 30) _ = _
             simp only [Act.put, List.setIfInBounds_toArray, List.set_cons_zero, List.set_cons_succ, i64_w, i32_w]
             rfl
            refine pureS (i := 4) (N := some 31) (any_of HT_.out (by kernel_rfl)) ?_
            refine pureS (i := 5) (N := some 32) (any_of HT_.out (by kernel_rfl)) ?_
            refine pureS (i := 8) (N := some 35) (any_of HT_.out (by kernel_rfl)) ?_
            refine pureS (i := 9) (N := some 36) (any_of HT_.out (by kernel_rfl)) ?_
            refine pureS (i := 11) (N := some 38) (any_of HT_.out (by kernel_rfl)) ?_
            refine pureS (i := 15) (N := some 42) (any_of HT_.out (by kernel_rfl)) ?_
            refine pureS (i := 16) (N := some 43) (any_of HT_.out (by kernel_rfl)) ?_
            refine pureS (i := 18) (N := some 45) (any_of HT_.out (by kernel_rfl)) ?_
            refine takeS (i := 6) (N := some 33) (take_ofW HT_.out HW_.out (by kernel_rfl)) hHeld ?_
            refine takeS (i := 7) (N := some 34) (take_ofW HT_.out HW_.out (by kernel_rfl)) hHeld ?_
            refine takeS (i := 13) (N := some 40) (take_ofW HT_.out HW_.out (by kernel_rfl)) hHeld ?_
            refine takeS (i := 14) (N := some 41) (take_ofW HT_.out HW_.out (by kernel_rfl)) hHeld ?_
            refine one_ (i := 10) (N := some 37) #[true, true, true, true, true, true, true, true, true, true, true, true, false, true, true, true, true, false, true, false, false, false] rfl rfl (one_of HT_.out (by kernel_rfl)) (by decide) (fun K hK => ?_)
            refine goes_ Tryd.func125 (by kernel_rfl) rfl #[.agg #[.int .i64 a0_0, .int .i64 a0_1, .slice A0_2 l0_2.length c0_2, .slice A0_3 l0_3.length c0_3], .int .i64 x11_1, .int .i64 x16_2] (by rfl) rfl rfl (by (try simp only [List.map_toArray, List.map_cons, List.map_nil]); first | done | rfl | (simp only [List.length_drop, List.length_take]; rfl)) ?_
            with_reducible refine (impl_machine_step.calls a0_0 a0_1 _ _ l0_2 _ _ l0_3 x11_1 x16_2 t432 _ ?side1 ?side2 ?side3 ?side4 A19.out).mono ?_
            (case side1 => exact cP (Kd.C_below HR0_2.out HB.out))
            (case side2 => exact HC0_2.out)
            (case side3 => exact cP (Kd.C_below HR0_3.out HB.out))
            (case side4 => exact HC0_3.out)
            rintro e w28 ⟨rfl, hb⟩
            refine ⟨_, rfl, ?_⟩
            have n0_ := Aside0.mk (blkB BK428.out hb)
            have n1_ := Aside0.mk (blkB BK429.out hb)
            have n2_ := Aside0.mk (below_step (bW) hb)
            clear BK428 BK429 HB; have BK428 := n0_; have BK429 := n1_; have HB := n2_; clear n0_ n1_ n2_
            (try clear hb)
            (try clear hb2)
            (try clear hk)
            (try clear hi)
            refine hK.out _ _ ⟨(blk_cell BK429.out 0).trans rfl, (blk_cell BK429.out 1).trans rfl, (blk_cell BK428.out 0).trans rfl, (blk_cell BK428.out 1).trans rfl, (blk_cell BK428.out 2).trans rfl, (blk_cell BK428.out 3).trans rfl⟩ (fun hHeld => ?_)
            clear hK K
            refine norm_ (a' := ?_) ?_ ?_
            rotate_left
            ·show Act.put _ (some 37) _ = _
             simp only [Act.put, List.setIfInBounds_toArray, List.set_cons_zero, List.set_cons_succ, i64_w, i32_w]
             rfl
            refine one_ (i := 12) (N := some 39) #[true, true, true, true, true, true, true, true, true, true, true, true, true, true, true, true, true, false, true, false, false, false] rfl rfl (one_of HT_.out (by kernel_rfl)) (by decide) (fun K hK => ?_)
            refine goes_ Tryd.func125 (by kernel_rfl) rfl #[.agg #[.int .i64 a0_0, .int .i64 a0_1, .slice A0_2 l0_2.length c0_2, .slice A0_3 l0_3.length c0_3], .int .i64 t432, .int .i64 x7_3] (by rfl) rfl rfl (by (try simp only [List.map_toArray, List.map_cons, List.map_nil]); first | done | rfl | (simp only [List.length_drop, List.length_take]; rfl)) ?_
            with_reducible refine (impl_machine_step.calls a0_0 a0_1 _ _ l0_2 _ _ l0_3 t432 x7_3 t433 _ ?side1 ?side2 ?side3 ?side4 A20.out).mono ?_
            (case side1 => exact cP (Kd.C_below HR0_2.out HB.out))
            (case side2 => exact HC0_2.out)
            (case side3 => exact cP (Kd.C_below HR0_3.out HB.out))
            (case side4 => exact HC0_3.out)
            rintro e w29 ⟨rfl, hb⟩
            refine ⟨_, rfl, ?_⟩
            have n0_ := Aside0.mk (blkB BK428.out hb)
            have n1_ := Aside0.mk (blkB BK429.out hb)
            have n2_ := Aside0.mk (below_step (bW) hb)
            clear BK428 BK429 HB; have BK428 := n0_; have BK429 := n1_; have HB := n2_; clear n0_ n1_ n2_
            (try clear hb)
            (try clear hb2)
            (try clear hk)
            (try clear hi)
            refine hK.out _ _ ⟨(blk_cell BK429.out 0).trans rfl, (blk_cell BK429.out 1).trans rfl, (blk_cell BK428.out 0).trans rfl, (blk_cell BK428.out 1).trans rfl, (blk_cell BK428.out 2).trans rfl, (blk_cell BK428.out 3).trans rfl⟩ (fun hHeld => ?_)
            clear hK K
            refine norm_ (a' := ?_) ?_ ?_
            rotate_left
            ·show Act.put _ (some 39) _ = _
             simp only [Act.put, List.setIfInBounds_toArray, List.set_cons_zero, List.set_cons_succ, i64_w, i32_w]
             rfl
            refine one_ (i := 17) (N := some 44) #[true, true, true, true, true, true, true, true, true, true, true, true, true, true, true, true, true, true, true, false, false, false] rfl rfl (one_of HT_.out (by kernel_rfl)) (by decide) (fun K hK => ?_)
            refine goes_ Tryd.func125 (by kernel_rfl) rfl #[.agg #[.int .i64 a0_0, .int .i64 a0_1, .slice A0_2 l0_2.length c0_2, .slice A0_3 l0_3.length c0_3], .int .i64 x11_1, .int .i64 x7_3] (by rfl) rfl rfl (by (try simp only [List.map_toArray, List.map_cons, List.map_nil]); first | done | rfl | (simp only [List.length_drop, List.length_take]; rfl)) ?_
            with_reducible refine (impl_machine_step.calls a0_0 a0_1 _ _ l0_2 _ _ l0_3 x11_1 x7_3 t434 _ ?side1 ?side2 ?side3 ?side4 A21.out).mono ?_
            (case side1 => exact cP (Kd.C_below HR0_2.out HB.out))
            (case side2 => exact HC0_2.out)
            (case side3 => exact cP (Kd.C_below HR0_3.out HB.out))
            (case side4 => exact HC0_3.out)
            rintro e w30 ⟨rfl, hb⟩
            refine ⟨_, rfl, ?_⟩
            have n0_ := Aside0.mk (blkB BK428.out hb)
            have n1_ := Aside0.mk (blkB BK429.out hb)
            have n2_ := Aside0.mk (below_step (bW) hb)
            clear BK428 BK429 HB; have BK428 := n0_; have BK429 := n1_; have HB := n2_; clear n0_ n1_ n2_
            (try clear hb)
            (try clear hb2)
            (try clear hk)
            (try clear hi)
            refine hK.out _ _ ⟨(blk_cell BK429.out 0).trans rfl, (blk_cell BK429.out 1).trans rfl, (blk_cell BK428.out 0).trans rfl, (blk_cell BK428.out 1).trans rfl, (blk_cell BK428.out 2).trans rfl, (blk_cell BK428.out 3).trans rfl⟩ (fun hHeld => ?_)
            clear hK K
            refine norm_ (a' := ?_) ?_ ?_
            rotate_left
            ·show Act.put _ (some 44) _ = _
             simp only [Act.put, List.setIfInBounds_toArray, List.set_cons_zero, List.set_cons_succ, i64_w, i32_w]
             rfl
            refine one_ (i := 19) (N := some 46) #[true, true, true, true, true, true, true, true, true, true, true, true, true, true, true, true, true, true, true, true, false, false] rfl rfl (one_of HT_.out (by kernel_rfl)) (by decide) (fun K hK => ?_)
            refine goes_ Tryd.func125 (by kernel_rfl) rfl #[.agg #[.int .i64 a0_0, .int .i64 a0_1, .slice A0_2 l0_2.length c0_2, .slice A0_3 l0_3.length c0_3], .int .i64 t434, .int .i64 x16_2] (by rfl) rfl rfl (by (try simp only [List.map_toArray, List.map_cons, List.map_nil]); first | done | rfl | (simp only [List.length_drop, List.length_take]; rfl)) ?_
            with_reducible refine (impl_machine_step.calls a0_0 a0_1 _ _ l0_2 _ _ l0_3 t434 x16_2 t435 _ ?side1 ?side2 ?side3 ?side4 A22.out).mono ?_
            (case side1 => exact cP (Kd.C_below HR0_2.out HB.out))
            (case side2 => exact HC0_2.out)
            (case side3 => exact cP (Kd.C_below HR0_3.out HB.out))
            (case side4 => exact HC0_3.out)
            rintro e w31 ⟨rfl, hb⟩
            refine ⟨_, rfl, ?_⟩
            have n0_ := Aside0.mk (blkB BK428.out hb)
            have n1_ := Aside0.mk (blkB BK429.out hb)
            have n2_ := Aside0.mk (below_step (bW) hb)
            clear BK428 BK429 HB; have BK428 := n0_; have BK429 := n1_; have HB := n2_; clear n0_ n1_ n2_
            (try clear hb)
            (try clear hb2)
            (try clear hk)
            (try clear hi)
            refine hK.out _ _ ⟨(blk_cell BK429.out 0).trans rfl, (blk_cell BK429.out 1).trans rfl, (blk_cell BK428.out 0).trans rfl, (blk_cell BK428.out 1).trans rfl, (blk_cell BK428.out 2).trans rfl, (blk_cell BK428.out 3).trans rfl⟩ (fun hHeld => ?_)
            clear hK K
            refine norm_ (a' := ?_) ?_ ?_
            rotate_left
            ·show Act.put _ (some 46) _ = _
             simp only [Act.put, List.setIfInBounds_toArray, List.set_cons_zero, List.set_cons_succ, i64_w, i32_w]
             rfl
            refine pureS (i := 20) (N := some 47) (any_of HT_.out (by kernel_rfl)) ?_
            refine pureS (i := 21) (N := some 48) (any_of HT_.out (by kernel_rfl)) ?_
            refine done_ (done_of HT_.out (by kernel_rfl)) ?_
            try go_wp2
            go_roundg k3
            case measure => have := HK1.out; have := HK2.out; have := HK3.out; omega
            case rel => exact ⟨(wrap64 (x7_3 + 1)), (eW), H', ⟨by have := HK1.out; have := HK2.out; have := HK3.out; omega⟩, ⟨(bP BK428.out)⟩, ⟨(bP BK429.out)⟩, ⟨bW⟩⟩
           ·rw [if_neg c23] at H
            have c23b0 : (t433 == t435) = false := beq_eq_false_iff_ne.mpr c23
            have c23b1 : (t433 != t435) = true := bne_iff_ne.mpr c23
            obtain ⟨y436, hy436⟩ : ∃ y_ : List Int, y_ = (([x11_1, x16_2, x7_3] : List Int)) := ⟨_, rfl⟩
            replace H : (some y436) = some r := by first | (rw [hy436]; with_reducible exact H) | (have H2_ := (Option.bind_some _ _).symm.trans H; rw [hy436]; with_reducible exact H2_) | (have H2_ := (Option.bind_some _ _).symm.trans H; with_reducible exact H2_) | with_reducible exact H | (rw [hy436]; exact H) | exact H
            have Ny436 := Aside0.mk hy436
            clear hy436
            obtain rfl := Option.some.inj H
            have hnb32 := NB429_428.out
            have hnc32 := NB428_429.out
            have hcz33_0 : wr.cell? ⟨gb429, 0, none⟩ = some (.int .i64 a1_0) := (blk_cell BK429.out 0).trans rfl
            have hcz33_1 : wr.cell? ⟨gb429, 1, none⟩ = some (.slice A1_1 l1_1.length c1_1) := (blk_cell BK429.out 1).trans rfl
            have hfz33_0 := blk_frozen BK429.out 0
            have hfz33_1 := blk_frozen BK429.out 1
            try go_wp2
            have n0_ := Aside0.mk (blk_drew BK428.out)
            have n1_ := Aside0.mk (blk_drew BK429.out)
            have n2_ := Aside0.mk (below_drew1 HB.out)
            clear BK428 BK429 HB; have BK428 := n0_; have BK429 := n1_; have HB := n2_; clear n0_ n1_ n2_
            refine start_ (n := 22) (S := fun w' => w'.cell? ⟨gb429, 0, none⟩ = some (.int .i64 a1_0) ∧ w'.cell? ⟨gb429, 1, none⟩ = some (.slice A1_1 l1_1.length c1_1) ∧ w'.cell? ⟨gb428, 0, none⟩ = some (.int .i64 a0_0) ∧ w'.cell? ⟨gb428, 1, none⟩ = some (.int .i64 a0_1) ∧ w'.cell? ⟨gb428, 2, none⟩ = some (.slice A0_2 l0_2.length c0_2) ∧ w'.cell? ⟨gb428, 3, none⟩ = some (.slice A0_3 l0_3.length c0_3)) (ds := []) #[false, false, false, false, false, false, false, false, false, false, false, false, false, false, false, false, false, false, false, false, false, false] (by kernel_rfl) rfl rfl ⟨(blk_cell BK429.out 0).trans rfl, (blk_cell BK429.out 1).trans rfl, (blk_cell BK428.out 0).trans rfl, (blk_cell BK428.out 1).trans rfl, (blk_cell BK428.out 2).trans rfl, (blk_cell BK428.out 3).trans rfl⟩ (fun hHeld => ?_); refine with_tabW impl_machine_diamondFault.tab10 impl_machine_diamondFault.bits10 (fun HT_ HW_ => ?_)
            generalize wr.drew = w34 at BK428 BK429 HB hHeld ⊢
            refine pureS (i := 1) (N := some 28) (any_of HT_.out (by kernel_rfl)) ?_
            refine pureS (i := 2) (N := some 29) (any_of HT_.out (by kernel_rfl)) ?_
            refine takeS (i := 0) (N := some 27) (take_ofW HT_.out HW_.out (by kernel_rfl)) hHeld ?_
            refine one_ (i := 3) (N := some 30) #[true, true, true, true, false, false, false, false, false, false, false, false, false, false, false, false, false, false, false, false, false, false] rfl rfl (one_of HT_.out (by kernel_rfl)) (by decide) (fun K hK => ?_)
            refine goes_ Tryd.func124 (by kernel_rfl) rfl #[.agg #[.int .i64 a1_0, .slice A1_1 l1_1.length c1_1], .int .i64 x16_2, .int .i64 x7_3] (by rfl) rfl rfl (by (try simp only [List.map_toArray, List.map_cons, List.map_nil]); first | done | rfl | (simp only [List.length_drop, List.length_take]; rfl)) ?_
            with_reducible refine (impl_depend.calls a1_0 _ _ l1_1 x16_2 x7_3 false _ ?side1 ?side2 A13.out).mono ?_
            (case side1 => exact cP (Kd.C_below HR1_1.out HB.out))
            (case side2 => exact HC1_1.out)
            rintro e w35 ⟨rfl, hb⟩
            refine ⟨_, rfl, ?_⟩
            have n0_ := Aside0.mk (blkB BK428.out hb)
            have n1_ := Aside0.mk (blkB BK429.out hb)
            have n2_ := Aside0.mk (below_step (bW) hb)
            clear BK428 BK429 HB; have BK428 := n0_; have BK429 := n1_; have HB := n2_; clear n0_ n1_ n2_
            (try clear hb)
            (try clear hb2)
            (try clear hk)
            (try clear hi)
            refine hK.out _ _ ⟨(blk_cell BK429.out 0).trans rfl, (blk_cell BK429.out 1).trans rfl, (blk_cell BK428.out 0).trans rfl, (blk_cell BK428.out 1).trans rfl, (blk_cell BK428.out 2).trans rfl, (blk_cell BK428.out 3).trans rfl⟩ (fun hHeld => ?_)
            clear hK K
            refine norm_ (a' := ?_) ?_ ?_
            rotate_left
            ·show Act.put _ (some 30) _ = _
             simp only [Act.put, List.setIfInBounds_toArray, List.set_cons_zero, List.set_cons_succ, i64_w, i32_w]
             rfl
            refine pureS (i := 4) (N := some 31) (any_of HT_.out (by kernel_rfl)) ?_
            refine pureS (i := 5) (N := some 32) (any_of HT_.out (by kernel_rfl)) ?_
            refine pureS (i := 8) (N := some 35) (any_of HT_.out (by kernel_rfl)) ?_
            refine pureS (i := 9) (N := some 36) (any_of HT_.out (by kernel_rfl)) ?_
            refine pureS (i := 11) (N := some 38) (any_of HT_.out (by kernel_rfl)) ?_
            refine pureS (i := 15) (N := some 42) (any_of HT_.out (by kernel_rfl)) ?_
            refine pureS (i := 16) (N := some 43) (any_of HT_.out (by kernel_rfl)) ?_
            refine pureS (i := 18) (N := some 45) (any_of HT_.out (by kernel_rfl)) ?_
            refine takeS (i := 6) (N := some 33) (take_ofW HT_.out HW_.out (by kernel_rfl)) hHeld ?_
            refine takeS (i := 7) (N := some 34) (take_ofW HT_.out HW_.out (by kernel_rfl)) hHeld ?_
            refine takeS (i := 13) (N := some 40) (take_ofW HT_.out HW_.out (by kernel_rfl)) hHeld ?_
            refine takeS (i := 14) (N := some 41) (take_ofW HT_.out HW_.out (by kernel_rfl)) hHeld ?_
            refine one_ (i := 10) (N := some 37) #[true, true, true, true, true, true, true, true, true, true, true, true, false, true, true, true, true, false, true, false, false, false] rfl rfl (one_of HT_.out (by kernel_rfl)) (by decide) (fun K hK => ?_)
            refine goes_ Tryd.func125 (by kernel_rfl) rfl #[.agg #[.int .i64 a0_0, .int .i64 a0_1, .slice A0_2 l0_2.length c0_2, .slice A0_3 l0_3.length c0_3], .int .i64 x11_1, .int .i64 x16_2] (by rfl) rfl rfl (by (try simp only [List.map_toArray, List.map_cons, List.map_nil]); first | done | rfl | (simp only [List.length_drop, List.length_take]; rfl)) ?_
            with_reducible refine (impl_machine_step.calls a0_0 a0_1 _ _ l0_2 _ _ l0_3 x11_1 x16_2 t432 _ ?side1 ?side2 ?side3 ?side4 A19.out).mono ?_
            (case side1 => exact cP (Kd.C_below HR0_2.out HB.out))
            (case side2 => exact HC0_2.out)
            (case side3 => exact cP (Kd.C_below HR0_3.out HB.out))
            (case side4 => exact HC0_3.out)
            rintro e w36 ⟨rfl, hb⟩
            refine ⟨_, rfl, ?_⟩
            have n0_ := Aside0.mk (blkB BK428.out hb)
            have n1_ := Aside0.mk (blkB BK429.out hb)
            have n2_ := Aside0.mk (below_step (bW) hb)
            clear BK428 BK429 HB; have BK428 := n0_; have BK429 := n1_; have HB := n2_; clear n0_ n1_ n2_
            (try clear hb)
            (try clear hb2)
            (try clear hk)
            (try clear hi)
            refine hK.out _ _ ⟨(blk_cell BK429.out 0).trans rfl, (blk_cell BK429.out 1).trans rfl, (blk_cell BK428.out 0).trans rfl, (blk_cell BK428.out 1).trans rfl, (blk_cell BK428.out 2).trans rfl, (blk_cell BK428.out 3).trans rfl⟩ (fun hHeld => ?_)
            clear hK K
            refine norm_ (a' := ?_) ?_ ?_
            rotate_left
            ·show Act.put _ (some 37) _ = _
             simp only [Act.put, List.setIfInBounds_toArray, List.set_cons_zero, List.set_cons_succ, i64_w, i32_w]
             rfl
            refine one_ (i := 12) (N := some 39) #[true, true, true, true, true, true, true, true, true, true, true, true, true, true, true, true, true, false, true, false, false, false] rfl rfl (one_of HT_.out (by kernel_rfl)) (by decide) (fun K hK => ?_)
            refine goes_ Tryd.func125 (by kernel_rfl) rfl #[.agg #[.int .i64 a0_0, .int .i64 a0_1, .slice A0_2 l0_2.length c0_2, .slice A0_3 l0_3.length c0_3], .int .i64 t432, .int .i64 x7_3] (by rfl) rfl rfl (by (try simp only [List.map_toArray, List.map_cons, List.map_nil]); first | done | rfl | (simp only [List.length_drop, List.length_take]; rfl)) ?_
            with_reducible refine (impl_machine_step.calls a0_0 a0_1 _ _ l0_2 _ _ l0_3 t432 x7_3 t433 _ ?side1 ?side2 ?side3 ?side4 A20.out).mono ?_
            (case side1 => exact cP (Kd.C_below HR0_2.out HB.out))
            (case side2 => exact HC0_2.out)
            (case side3 => exact cP (Kd.C_below HR0_3.out HB.out))
            (case side4 => exact HC0_3.out)
            rintro e w37 ⟨rfl, hb⟩
            refine ⟨_, rfl, ?_⟩
            have n0_ := Aside0.mk (blkB BK428.out hb)
            have n1_ := Aside0.mk (blkB BK429.out hb)
            have n2_ := Aside0.mk (below_step (bW) hb)
            clear BK428 BK429 HB; have BK428 := n0_; have BK429 := n1_; have HB := n2_; clear n0_ n1_ n2_
            (try clear hb)
            (try clear hb2)
            (try clear hk)
            (try clear hi)
            refine hK.out _ _ ⟨(blk_cell BK429.out 0).trans rfl, (blk_cell BK429.out 1).trans rfl, (blk_cell BK428.out 0).trans rfl, (blk_cell BK428.out 1).trans rfl, (blk_cell BK428.out 2).trans rfl, (blk_cell BK428.out 3).trans rfl⟩ (fun hHeld => ?_)
            clear hK K
            refine norm_ (a' := ?_) ?_ ?_
            rotate_left
            ·show Act.put _ (some 39) _ = _
             simp only [Act.put, List.setIfInBounds_toArray, List.set_cons_zero, List.set_cons_succ, i64_w, i32_w]
             rfl
            refine one_ (i := 17) (N := some 44) #[true, true, true, true, true, true, true, true, true, true, true, true, true, true, true, true, true, true, true, false, false, false] rfl rfl (one_of HT_.out (by kernel_rfl)) (by decide) (fun K hK => ?_)
            refine goes_ Tryd.func125 (by kernel_rfl) rfl #[.agg #[.int .i64 a0_0, .int .i64 a0_1, .slice A0_2 l0_2.length c0_2, .slice A0_3 l0_3.length c0_3], .int .i64 x11_1, .int .i64 x7_3] (by rfl) rfl rfl (by (try simp only [List.map_toArray, List.map_cons, List.map_nil]); first | done | rfl | (simp only [List.length_drop, List.length_take]; rfl)) ?_
            with_reducible refine (impl_machine_step.calls a0_0 a0_1 _ _ l0_2 _ _ l0_3 x11_1 x7_3 t434 _ ?side1 ?side2 ?side3 ?side4 A21.out).mono ?_
            (case side1 => exact cP (Kd.C_below HR0_2.out HB.out))
            (case side2 => exact HC0_2.out)
            (case side3 => exact cP (Kd.C_below HR0_3.out HB.out))
            (case side4 => exact HC0_3.out)
            rintro e w38 ⟨rfl, hb⟩
            refine ⟨_, rfl, ?_⟩
            have n0_ := Aside0.mk (blkB BK428.out hb)
            have n1_ := Aside0.mk (blkB BK429.out hb)
            have n2_ := Aside0.mk (below_step (bW) hb)
            clear BK428 BK429 HB; have BK428 := n0_; have BK429 := n1_; have HB := n2_; clear n0_ n1_ n2_
            (try clear hb)
            (try clear hb2)
            (try clear hk)
            (try clear hi)
            refine hK.out _ _ ⟨(blk_cell BK429.out 0).trans rfl, (blk_cell BK429.out 1).trans rfl, (blk_cell BK428.out 0).trans rfl, (blk_cell BK428.out 1).trans rfl, (blk_cell BK428.out 2).trans rfl, (blk_cell BK428.out 3).trans rfl⟩ (fun hHeld => ?_)
            clear hK K
            refine norm_ (a' := ?_) ?_ ?_
            rotate_left
            ·show Act.put _ (some 44) _ = _
             simp only [Act.put, List.setIfInBounds_toArray, List.set_cons_zero, List.set_cons_succ, i64_w, i32_w]
             rfl
            refine one_ (i := 19) (N := some 46) #[true, true, true, true, true, true, true, true, true, true, true, true, true, true, true, true, true, true, true, true, false, false] rfl rfl (one_of HT_.out (by kernel_rfl)) (by decide) (fun K hK => ?_)
            refine goes_ Tryd.func125 (by kernel_rfl) rfl #[.agg #[.int .i64 a0_0, .int .i64 a0_1, .slice A0_2 l0_2.length c0_2, .slice A0_3 l0_3.length c0_3], .int .i64 t434, .int .i64 x16_2] (by rfl) rfl rfl (by (try simp only [List.map_toArray, List.map_cons, List.map_nil]); first | done | rfl | (simp only [List.length_drop, List.length_take]; rfl)) ?_
            with_reducible refine (impl_machine_step.calls a0_0 a0_1 _ _ l0_2 _ _ l0_3 t434 x16_2 t435 _ ?side1 ?side2 ?side3 ?side4 A22.out).mono ?_
            (case side1 => exact cP (Kd.C_below HR0_2.out HB.out))
            (case side2 => exact HC0_2.out)
            (case side3 => exact cP (Kd.C_below HR0_3.out HB.out))
            (case side4 => exact HC0_3.out)
            rintro e w39 ⟨rfl, hb⟩
            refine ⟨_, rfl, ?_⟩
            have n0_ := Aside0.mk (blkB BK428.out hb)
            have n1_ := Aside0.mk (blkB BK429.out hb)
            have n2_ := Aside0.mk (below_step (bW) hb)
            clear BK428 BK429 HB; have BK428 := n0_; have BK429 := n1_; have HB := n2_; clear n0_ n1_ n2_
            (try clear hb)
            (try clear hb2)
            (try clear hk)
            (try clear hi)
            refine hK.out _ _ ⟨(blk_cell BK429.out 0).trans rfl, (blk_cell BK429.out 1).trans rfl, (blk_cell BK428.out 0).trans rfl, (blk_cell BK428.out 1).trans rfl, (blk_cell BK428.out 2).trans rfl, (blk_cell BK428.out 3).trans rfl⟩ (fun hHeld => ?_)
            clear hK K
            refine norm_ (a' := ?_) ?_ ?_
            rotate_left
            ·show Act.put _ (some 46) _ = _
             simp only [Act.put, List.setIfInBounds_toArray, List.set_cons_zero, List.set_cons_succ, i64_w, i32_w]
             rfl
            refine pureS (i := 20) (N := some 47) (any_of HT_.out (by kernel_rfl)) ?_
            refine pureS (i := 21) (N := some 48) (any_of HT_.out (by kernel_rfl)) ?_
            refine done_ (done_of HT_.out (by kernel_rfl)) ?_
            try go_wp2_with (first | ((with_reducible refine gate_dst (N := 52) rfl ?_); refine Kd.R_lit (Kd.int .i64) _ 2 ?hg (N := 52) ?hd (xs := ([x11_1, x16_2, x7_3] : List Int)) (inner := [.int .i64 x11_1, .int .i64 x16_2, .int .i64 x7_3]) (ok := fun _ => True) (okp := fun _ => True) ?hr ?hp (fun _ hk => hk) trivial (Below.refl _ _) (Nat.le_refl _) (by simp) ?_; (case hd => rfl); (case hg => rfl); (case hr => first | (go_simp; done) | (go_simp; rfl)); (case hp => exact (Reps.one (show Kd.M (Kd.int .i64) _ _ _ x11_1 [.int .i64 x11_1] from rfl) (Reps.one (show Kd.M (Kd.int .i64) _ _ _ x16_2 [.int .i64 x16_2] from rfl) (Reps.one (show Kd.M (Kd.int .i64) _ _ _ x7_3 [.int .i64 x7_3] from rfl) (Reps.none _ _))))); intro v437 w40 ho41 hb hg_ hnew_; clear hg_ hnew_; (first | rw [← Ny436.out] at ho41 | (simp only [Int.reduceToNat] at ho41; rw [← Ny436.out] at ho41)); have n0_ := Aside0.mk (Kd.R_lower ho41 (below_size (bW))); have n1_ := Aside0.mk (blkB BK428.out hb); have n2_ := Aside0.mk (blkB BK429.out hb); have n3_ := Aside0.mk (below_step (bW) hb); clear BK428 BK429 HB; have HO438 := n0_; have BK428 := n1_; have BK429 := n2_; have HB := n3_; clear n0_ n1_ n2_ n3_ hb ho41))
            go_ret
            exact ⟨_, eW, (rP HO438.out), bW, nlW⟩
         ·rw [if_neg c12] at H
          have c12b0 : decide (x7_3 < a1_0) = false := decide_eq_false c12
          clear c12
          have H' := Aside0.mk H
          clear H
          have hnb42 := NB429_428.out
          have hnc42 := NB428_429.out
          have hcz43_0 : wr.cell? ⟨gb429, 0, none⟩ = some (.int .i64 a1_0) := (blk_cell BK429.out 0).trans rfl
          have hcz43_1 : wr.cell? ⟨gb429, 1, none⟩ = some (.slice A1_1 l1_1.length c1_1) := (blk_cell BK429.out 1).trans rfl
          have hfz43_0 := blk_frozen BK429.out 0
          have hfz43_1 := blk_frozen BK429.out 1
          go_wp2
          go_roundg k3
          case measure => have := HK1.out; have := HK2.out; have := HK3.out; omega
          case rel => exact ⟨(wrap64 (x16_2 + 1)), (eW), H', ⟨by have := HK1.out; have := HK2.out; have := HK3.out; omega⟩, ⟨(bP BK428.out)⟩, ⟨(bP BK429.out)⟩, ⟨bW⟩⟩
      ·rw [if_neg c11] at H
       have c11b0 : decide (x16_2 < a1_0) = false := decide_eq_false c11
       clear c11
       have H' := Aside0.mk H
       clear H
       go_wp2
       go_roundg k2
       case measure => have := HK1.out; have := HK2.out; omega
       case rel => exact ⟨(wrap64 (x11_1 + 1)), (eW), H', ⟨by have := HK1.out; have := HK2.out; omega⟩, ⟨(bP BK428.out)⟩, ⟨(bP BK429.out)⟩, ⟨bW⟩⟩
   ·rw [if_neg c8] at H
    have c8b0 : decide (x11_1 < t430) = false := decide_eq_false c8
    clear c8
    obtain rfl := Option.some.inj H
    go_wp2
    go_ret
    exact ⟨_, eW, by first | exact Kd.R_nil _ _ _ _ _ | exact Kd.N_nil _ _ _ _ _ | exact Kd.V_nil _ _ _ _ _ | exact Kd.Q_nil _ _ _ _ _ | exact Kd.S_nil _ _ _ _ _, bW, nlW⟩
end Go.Proofs.YthbaocejgjpfoaaDoor.P
end M0
section M1
namespace Go.Proofs.YthbaocejgjpfoaaDoor.P
open Go.RowKit Go.Proofs.YthbaocejgjpfoaaDoor.Sh Go.Proofs.YthbaocejgjpfoaaDoorW.PrintWords Go.Proofs.YthbaocejgjpfoaaDoorW.PrintLast Go.Proofs.YthbaocejgjpfoaaDoorW.PrintMore
attribute [local go_sem] max2_int min2_int max_two min_two max_three min_three max_four min_four   -- for this text's walks alone
set_option linter.unusedVariables false
set_option linter.unusedSimpArgs false
/-! ### impl_HasDiamonds: function 28 -/
/-! ### laws_eqAutomaton: function 29 -/
def laws_eqAutomaton.f (k : Nat) (a0_0 : Int) (a0_1 : Int) (a0_2 : Int) (l0_3 : List (List Int)) (a1_0 : Int) (a1_1 : Int) (a1_2 : Int) (l1_3 : List (List Int)) : Option (Bool) := if a0_0 = a1_0 then (if a0_1 = a1_1 then (if a0_2 = a1_2 then ((laws_eqInt64SS.f k l0_3 l1_3).bind fun t458 => (if t458 = true then (some true) else (some false))) else (some false)) else (some false)) else (some false)
set_option maxHeartbeats 8000000 in
set_option maxRecDepth 100000 in
theorem laws_eqAutomaton.calls (k : Nat) (a0_0 : Int) (a0_1 : Int) (a0_2 : Int) (A0_3 : Option Addr) (c0_3 : Nat) (l0_3 : List (List Int)) (a1_0 : Int) (a1_1 : Int) (a1_2 : Int) (A1_3 : Option Addr) (c1_3 : Nat) (l1_3 : List (List Int)) (r : Bool) (w : World) (hr0_3 : Kd.C (Kd.slice 2 (Kd.int .i64)) w A0_3 l0_3.length l0_3) (hc0_3 : l0_3.length ≤ c0_3) (hr1_3 : Kd.C (Kd.slice 2 (Kd.int .i64)) w A1_3 l1_3.length l1_3) (hc1_3 : l1_3.length ≤ c1_3) (h : laws_eqAutomaton.f k a0_0 a0_1 a0_2 l0_3 a1_0 a1_1 a1_2 l1_3 = some r) :
  Calls Tryd.prog 29 #[.agg #[.int .i64 a0_0, .int .i64 a0_1, .int .i64 a0_2, .slice A0_3 l0_3.length c0_3], .agg #[.int .i64 a1_0, .int .i64 a1_1, .int .i64 a1_2, .slice A1_3 l1_3.length c1_3]] w fun e w' => e = .returned (.bool r) ∧ Below w.heap.size w w' := by
 have hu48 := Tryd.underlying48
 have HR0_3 := Aside0.mk hr0_3
 have HC0_3 := Aside0.mk hc0_3
 clear hr0_3 hc0_3
 have HR1_3 := Aside0.mk hr1_3
 have HC1_3 := Aside0.mk hc1_3
 clear hr1_3 hc1_3
 have HB := Aside0.mk (Below.refl w.heap.size w)
 have H : (if a0_0 = a1_0 then (if a0_1 = a1_1 then (if a0_2 = a1_2 then ((laws_eqInt64SS.f k l0_3 l1_3).bind fun t458 => (if t458 = true then (some true) else (some false))) else (some false)) else (some false)) else (some false)) = some r := h
 clear h
 by_cases c3 : a0_0 = a1_0
 ·rw [if_pos c3] at H
  have c3b0 : (a0_0 == a1_0) = true := beq_iff_eq.mpr c3
  have c3b1 : (a0_0 != a1_0) = false := bne_eq_false_iff_eq.mpr c3
  clear c3
  by_cases c4 : a0_1 = a1_1
  ·rw [if_pos c4] at H
   have c4b0 : (a0_1 == a1_1) = true := beq_iff_eq.mpr c4
   have c4b1 : (a0_1 != a1_1) = false := bne_eq_false_iff_eq.mpr c4
   clear c4
   by_cases c5 : a0_2 = a1_2
   ·rw [if_pos c5] at H
    have c5b0 : (a0_2 == a1_2) = true := beq_iff_eq.mpr c5
    have c5b1 : (a0_2 != a1_2) = false := bne_eq_false_iff_eq.mpr c5
    clear c5
    replace H := Option.bind_eq_some_iff.mp H
    obtain ⟨t458, A60, H⟩ := H
    replace H : (if t458 = true then (some true) else (some false)) = some r := H
    have A6 := Aside0.mk A60
    clear A60
    by_cases c7 : t458 = true
    ·subst c7
     have H1 : (some true) = some r := by rw [if_pos rfl] at H; exact H
     clear H
     have H := H1
     clear H1
     obtain rfl := Option.some.inj H
     go_enter Tryd.func29, Tryd.ntmps29
     go_wp2_with (first | ((with_reducible refine gate_dst (N := 2) rfl ?_); refine boxS (N := 2) (cs := #[.int .i64 a0_0, .int .i64 a0_1, .int .i64 a0_2, .slice A0_3 l0_3.length c0_3]) (t := 48) ?_; intro gb456 hg w8 hbox hb; have n0_ := Aside0.mk (below_step (bW) hb); have n1_ := Aside0.mk (hbox); have n2_ := geW (w := w) hg; have n3_ := geW (w := w) hg; clear HB; have HB := n0_; have BK456 := n1_; have GW456 := n2_; have GE456 := n3_; clear n0_ n1_ n2_ n3_ hb hbox hg) | ((with_reducible refine gate_dst (N := 3) rfl ?_); refine boxS (N := 3) (cs := #[.int .i64 a1_0, .int .i64 a1_1, .int .i64 a1_2, .slice A1_3 l1_3.length c1_3]) (t := 48) ?_; intro gb457 hg w9 hbox hb; have n0_ := Aside0.mk (blkB BK456.out hb); have n1_ := Aside0.mk (below_step (bW) hb); have n2_ := Aside0.mk (hbox); have n3_ := geW (w := w) hg; have n4_ := geW (w := w) hg; have n5_ := Aside0.mk ((by rw [hg]; exact Nat.ne_of_lt (blk_lt (g := gb456) (o := .cells #[.int .i64 a0_0, .int .i64 a0_1, .int .i64 a0_2, .slice A0_3 l0_3.length c0_3] 48 (0, 0)) (bP BK456.out)) : gb456 ≠ gb457)); have n6_ := Aside0.mk ((by rw [hg]; exact Nat.ne_of_gt (blk_lt (g := gb456) (o := .cells #[.int .i64 a0_0, .int .i64 a0_1, .int .i64 a0_2, .slice A0_3 l0_3.length c0_3] 48 (0, 0)) (bP BK456.out)) : gb457 ≠ gb456)); clear BK456 HB; have BK456 := n0_; have HB := n1_; have BK457 := n2_; have GW457 := n3_; have GE457 := n4_; have NB456_457 := n5_; have NB457_456 := n6_; clear n0_ n1_ n2_ n3_ n4_ n5_ n6_ hb hbox hg; have hnb10 := NB456_457.out; have hnc10 := NB457_456.out; obtain ⟨hcz11_0, hcz11_1, hcz11_2, hcz11_3⟩ := cells4 BK456.out; obtain ⟨hfz11_0, hfz11_1, hfz11_2, hfz11_3⟩ := frz4 BK456.out; obtain ⟨hcz12_0, hcz12_1, hcz12_2, hcz12_3⟩ := cells4 BK457.out; obtain ⟨hfz12_0, hfz12_1, hfz12_2, hfz12_3⟩ := frz4 BK457.out) | ((with_reducible refine gate_callee (f := 19) rfl ?_); refine goesS (some 24) Tryd.func19 #[.slice A0_3 l0_3.length c0_3, .slice A1_3 l1_3.length c1_3] ?_; (with_reducible refine (laws_eqInt64SS.calls k _ _ l0_3 _ _ l1_3 true _ ?side1 ?side2 ?side3 ?side4 A6.out).mono ?_); (case side1 => exact cP (Kd.C_below HR0_3.out HB.out)); (case side2 => exact HC0_3.out); (case side3 => exact cP (Kd.C_below HR1_3.out HB.out)); (case side4 => exact HC1_3.out); rintro e w' ⟨rfl, ⟨nd, rfl⟩⟩; refine ⟨_, rfl, ?_⟩))
     go_ret
     exact ⟨eW, bW⟩
    ·replace c7 := Bool.eq_false_iff.mpr c7
     subst c7
     have H1 : (some false) = some r := by rw [if_neg (show ¬ (false = true) by decide)] at H; exact H
     clear H
     have H := H1
     clear H1
     obtain rfl := Option.some.inj H
     go_enter Tryd.func29, Tryd.ntmps29
     go_wp2_with (first | ((with_reducible refine gate_dst (N := 2) rfl ?_); refine boxS (N := 2) (cs := #[.int .i64 a0_0, .int .i64 a0_1, .int .i64 a0_2, .slice A0_3 l0_3.length c0_3]) (t := 48) ?_; intro gb456 hg w13 hbox hb; have n0_ := Aside0.mk (below_step (bW) hb); have n1_ := Aside0.mk (hbox); have n2_ := geW (w := w) hg; have n3_ := geW (w := w) hg; clear HB; have HB := n0_; have BK456 := n1_; have GW456 := n2_; have GE456 := n3_; clear n0_ n1_ n2_ n3_ hb hbox hg) | ((with_reducible refine gate_dst (N := 3) rfl ?_); refine boxS (N := 3) (cs := #[.int .i64 a1_0, .int .i64 a1_1, .int .i64 a1_2, .slice A1_3 l1_3.length c1_3]) (t := 48) ?_; intro gb457 hg w14 hbox hb; have n0_ := Aside0.mk (blkB BK456.out hb); have n1_ := Aside0.mk (below_step (bW) hb); have n2_ := Aside0.mk (hbox); have n3_ := geW (w := w) hg; have n4_ := geW (w := w) hg; have n5_ := Aside0.mk ((by rw [hg]; exact Nat.ne_of_lt (blk_lt (g := gb456) (o := .cells #[.int .i64 a0_0, .int .i64 a0_1, .int .i64 a0_2, .slice A0_3 l0_3.length c0_3] 48 (0, 0)) (bP BK456.out)) : gb456 ≠ gb457)); have n6_ := Aside0.mk ((by rw [hg]; exact Nat.ne_of_gt (blk_lt (g := gb456) (o := .cells #[.int .i64 a0_0, .int .i64 a0_1, .int .i64 a0_2, .slice A0_3 l0_3.length c0_3] 48 (0, 0)) (bP BK456.out)) : gb457 ≠ gb456)); clear BK456 HB; have BK456 := n0_; have HB := n1_; have BK457 := n2_; have GW457 := n3_; have GE457 := n4_; have NB456_457 := n5_; have NB457_456 := n6_; clear n0_ n1_ n2_ n3_ n4_ n5_ n6_ hb hbox hg; have hnb15 := NB456_457.out; have hnc15 := NB457_456.out; obtain ⟨hcz16_0, hcz16_1, hcz16_2, hcz16_3⟩ := cells4 BK456.out; obtain ⟨hfz16_0, hfz16_1, hfz16_2, hfz16_3⟩ := frz4 BK456.out; obtain ⟨hcz17_0, hcz17_1, hcz17_2, hcz17_3⟩ := cells4 BK457.out; obtain ⟨hfz17_0, hfz17_1, hfz17_2, hfz17_3⟩ := frz4 BK457.out) | ((with_reducible refine gate_callee (f := 19) rfl ?_); refine goesS (some 24) Tryd.func19 #[.slice A0_3 l0_3.length c0_3, .slice A1_3 l1_3.length c1_3] ?_; (with_reducible refine (laws_eqInt64SS.calls k _ _ l0_3 _ _ l1_3 false _ ?side1 ?side2 ?side3 ?side4 A6.out).mono ?_); (case side1 => exact cP (Kd.C_below HR0_3.out HB.out)); (case side2 => exact HC0_3.out); (case side3 => exact cP (Kd.C_below HR1_3.out HB.out)); (case side4 => exact HC1_3.out); rintro e w' ⟨rfl, ⟨nd, rfl⟩⟩; refine ⟨_, rfl, ?_⟩))
     go_ret
     exact ⟨eW, bW⟩
   ·rw [if_neg c5] at H
    have c5b0 : (a0_2 == a1_2) = false := beq_eq_false_iff_ne.mpr c5
    have c5b1 : (a0_2 != a1_2) = true := bne_iff_ne.mpr c5
    obtain rfl := Option.some.inj H
    go_enter Tryd.func29, Tryd.ntmps29
    go_wp2_with (first | ((with_reducible refine gate_dst (N := 2) rfl ?_); refine boxS (N := 2) (cs := #[.int .i64 a0_0, .int .i64 a0_1, .int .i64 a0_2, .slice A0_3 l0_3.length c0_3]) (t := 48) ?_; intro gb456 hg w18 hbox hb; have n0_ := Aside0.mk (below_step (bW) hb); have n1_ := Aside0.mk (hbox); have n2_ := geW (w := w) hg; have n3_ := geW (w := w) hg; clear HB; have HB := n0_; have BK456 := n1_; have GW456 := n2_; have GE456 := n3_; clear n0_ n1_ n2_ n3_ hb hbox hg) | ((with_reducible refine gate_dst (N := 3) rfl ?_); refine boxS (N := 3) (cs := #[.int .i64 a1_0, .int .i64 a1_1, .int .i64 a1_2, .slice A1_3 l1_3.length c1_3]) (t := 48) ?_; intro gb457 hg w19 hbox hb; have n0_ := Aside0.mk (blkB BK456.out hb); have n1_ := Aside0.mk (below_step (bW) hb); have n2_ := Aside0.mk (hbox); have n3_ := geW (w := w) hg; have n4_ := geW (w := w) hg; have n5_ := Aside0.mk ((by rw [hg]; exact Nat.ne_of_lt (blk_lt (g := gb456) (o := .cells #[.int .i64 a0_0, .int .i64 a0_1, .int .i64 a0_2, .slice A0_3 l0_3.length c0_3] 48 (0, 0)) (bP BK456.out)) : gb456 ≠ gb457)); have n6_ := Aside0.mk ((by rw [hg]; exact Nat.ne_of_gt (blk_lt (g := gb456) (o := .cells #[.int .i64 a0_0, .int .i64 a0_1, .int .i64 a0_2, .slice A0_3 l0_3.length c0_3] 48 (0, 0)) (bP BK456.out)) : gb457 ≠ gb456)); clear BK456 HB; have BK456 := n0_; have HB := n1_; have BK457 := n2_; have GW457 := n3_; have GE457 := n4_; have NB456_457 := n5_; have NB457_456 := n6_; clear n0_ n1_ n2_ n3_ n4_ n5_ n6_ hb hbox hg; have hnb20 := NB456_457.out; have hnc20 := NB457_456.out; obtain ⟨hcz21_0, hcz21_1, hcz21_2, hcz21_3⟩ := cells4 BK456.out; obtain ⟨hfz21_0, hfz21_1, hfz21_2, hfz21_3⟩ := frz4 BK456.out; obtain ⟨hcz22_0, hcz22_1, hcz22_2, hcz22_3⟩ := cells4 BK457.out; obtain ⟨hfz22_0, hfz22_1, hfz22_2, hfz22_3⟩ := frz4 BK457.out))
    go_ret
    exact ⟨eW, bW⟩
  ·rw [if_neg c4] at H
   have c4b0 : (a0_1 == a1_1) = false := beq_eq_false_iff_ne.mpr c4
   have c4b1 : (a0_1 != a1_1) = true := bne_iff_ne.mpr c4
   obtain rfl := Option.some.inj H
   go_enter Tryd.func29, Tryd.ntmps29
   go_wp2_with (first | ((with_reducible refine gate_dst (N := 2) rfl ?_); refine boxS (N := 2) (cs := #[.int .i64 a0_0, .int .i64 a0_1, .int .i64 a0_2, .slice A0_3 l0_3.length c0_3]) (t := 48) ?_; intro gb456 hg w23 hbox hb; have n0_ := Aside0.mk (below_step (bW) hb); have n1_ := Aside0.mk (hbox); have n2_ := geW (w := w) hg; have n3_ := geW (w := w) hg; clear HB; have HB := n0_; have BK456 := n1_; have GW456 := n2_; have GE456 := n3_; clear n0_ n1_ n2_ n3_ hb hbox hg) | ((with_reducible refine gate_dst (N := 3) rfl ?_); refine boxS (N := 3) (cs := #[.int .i64 a1_0, .int .i64 a1_1, .int .i64 a1_2, .slice A1_3 l1_3.length c1_3]) (t := 48) ?_; intro gb457 hg w24 hbox hb; have n0_ := Aside0.mk (blkB BK456.out hb); have n1_ := Aside0.mk (below_step (bW) hb); have n2_ := Aside0.mk (hbox); have n3_ := geW (w := w) hg; have n4_ := geW (w := w) hg; have n5_ := Aside0.mk ((by rw [hg]; exact Nat.ne_of_lt (blk_lt (g := gb456) (o := .cells #[.int .i64 a0_0, .int .i64 a0_1, .int .i64 a0_2, .slice A0_3 l0_3.length c0_3] 48 (0, 0)) (bP BK456.out)) : gb456 ≠ gb457)); have n6_ := Aside0.mk ((by rw [hg]; exact Nat.ne_of_gt (blk_lt (g := gb456) (o := .cells #[.int .i64 a0_0, .int .i64 a0_1, .int .i64 a0_2, .slice A0_3 l0_3.length c0_3] 48 (0, 0)) (bP BK456.out)) : gb457 ≠ gb456)); clear BK456 HB; have BK456 := n0_; have HB := n1_; have BK457 := n2_; have GW457 := n3_; have GE457 := n4_; have NB456_457 := n5_; have NB457_456 := n6_; clear n0_ n1_ n2_ n3_ n4_ n5_ n6_ hb hbox hg; have hnb25 := NB456_457.out; have hnc25 := NB457_456.out; obtain ⟨hcz26_0, hcz26_1, hcz26_2, hcz26_3⟩ := cells4 BK456.out; obtain ⟨hfz26_0, hfz26_1, hfz26_2, hfz26_3⟩ := frz4 BK456.out; obtain ⟨hcz27_0, hcz27_1, hcz27_2, hcz27_3⟩ := cells4 BK457.out; obtain ⟨hfz27_0, hfz27_1, hfz27_2, hfz27_3⟩ := frz4 BK457.out))
   go_ret
   exact ⟨eW, bW⟩
 ·rw [if_neg c3] at H
  have c3b0 : (a0_0 == a1_0) = false := beq_eq_false_iff_ne.mpr c3
  have c3b1 : (a0_0 != a1_0) = true := bne_iff_ne.mpr c3
  obtain rfl := Option.some.inj H
  go_enter Tryd.func29, Tryd.ntmps29
  go_wp2_with (first | ((with_reducible refine gate_dst (N := 2) rfl ?_); refine boxS (N := 2) (cs := #[.int .i64 a0_0, .int .i64 a0_1, .int .i64 a0_2, .slice A0_3 l0_3.length c0_3]) (t := 48) ?_; intro gb456 hg w28 hbox hb; have n0_ := Aside0.mk (below_step (bW) hb); have n1_ := Aside0.mk (hbox); have n2_ := geW (w := w) hg; have n3_ := geW (w := w) hg; clear HB; have HB := n0_; have BK456 := n1_; have GW456 := n2_; have GE456 := n3_; clear n0_ n1_ n2_ n3_ hb hbox hg) | ((with_reducible refine gate_dst (N := 3) rfl ?_); refine boxS (N := 3) (cs := #[.int .i64 a1_0, .int .i64 a1_1, .int .i64 a1_2, .slice A1_3 l1_3.length c1_3]) (t := 48) ?_; intro gb457 hg w29 hbox hb; have n0_ := Aside0.mk (blkB BK456.out hb); have n1_ := Aside0.mk (below_step (bW) hb); have n2_ := Aside0.mk (hbox); have n3_ := geW (w := w) hg; have n4_ := geW (w := w) hg; have n5_ := Aside0.mk ((by rw [hg]; exact Nat.ne_of_lt (blk_lt (g := gb456) (o := .cells #[.int .i64 a0_0, .int .i64 a0_1, .int .i64 a0_2, .slice A0_3 l0_3.length c0_3] 48 (0, 0)) (bP BK456.out)) : gb456 ≠ gb457)); have n6_ := Aside0.mk ((by rw [hg]; exact Nat.ne_of_gt (blk_lt (g := gb456) (o := .cells #[.int .i64 a0_0, .int .i64 a0_1, .int .i64 a0_2, .slice A0_3 l0_3.length c0_3] 48 (0, 0)) (bP BK456.out)) : gb457 ≠ gb456)); clear BK456 HB; have BK456 := n0_; have HB := n1_; have BK457 := n2_; have GW457 := n3_; have GE457 := n4_; have NB456_457 := n5_; have NB457_456 := n6_; clear n0_ n1_ n2_ n3_ n4_ n5_ n6_ hb hbox hg; have hnb30 := NB456_457.out; have hnc30 := NB457_456.out; obtain ⟨hcz31_0, hcz31_1, hcz31_2, hcz31_3⟩ := cells4 BK456.out; obtain ⟨hfz31_0, hfz31_1, hfz31_2, hfz31_3⟩ := frz4 BK456.out; obtain ⟨hcz32_0, hcz32_1, hcz32_2, hcz32_3⟩ := cells4 BK457.out; obtain ⟨hfz32_0, hfz32_1, hfz32_2, hfz32_3⟩ := frz4 BK457.out))
  go_ret
  exact ⟨eW, bW⟩
end Go.Proofs.YthbaocejgjpfoaaDoor.P
end M1
section M2
namespace Go.Proofs.YthbaocejgjpfoaaDoor.P
open Go.RowKit Go.Proofs.YthbaocejgjpfoaaDoor.Sh Go.Proofs.YthbaocejgjpfoaaDoorW.PrintWords Go.Proofs.YthbaocejgjpfoaaDoorW.PrintLast Go.Proofs.YthbaocejgjpfoaaDoorW.PrintMore
attribute [local go_sem] max2_int min2_int max_two min_two max_three min_three max_four min_four   -- for this text's walks alone
set_option linter.unusedVariables false
set_option linter.unusedSimpArgs false
/-! ### laws_FnExactHasDiamonds: function 5 -/
/-! ### spec_DiamondFault: function 30 -/
def spec_DiamondFault.f (k : Nat) (a0_0 : Int) (l0_1 : List Int) (a1_0 : Int) (a1_1 : Int) (a1_2 : Int) (l1_3 : List (List Int)) : Option (List Int × Int) := (spec_l11Over.f k a0_0 l0_1 a1_0 a1_1 a1_2 l1_3).bind fun t503 => (if t503 = 0 then ((spec_l11Fault.f k a0_0 l0_1 a1_0 a1_1 a1_2 l1_3).bind fun t504 => (if (t504.length : Int) = 0 then (some (([] : List Int), 4)) else (some (t504, 0)))) else (some (([] : List Int), t503)))
set_option maxHeartbeats 8000000 in
set_option maxRecDepth 100000 in
theorem spec_DiamondFault.calls (k : Nat) (a0_0 : Int) (A0_1 : Option Addr) (c0_1 : Nat) (l0_1 : List Int) (a1_0 : Int) (a1_1 : Int) (a1_2 : Int) (A1_3 : Option Addr) (c1_3 : Nat) (l1_3 : List (List Int)) (r1 : List Int) (r2 : Int) (w : World) (hr0_1 : Kd.C (Kd.int .i64) w A0_1 l0_1.length l0_1) (hc0_1 : l0_1.length ≤ c0_1) (hr1_3 : Kd.C (Kd.slice 2 (Kd.int .i64)) w A1_3 l1_3.length l1_3) (hc1_3 : l1_3.length ≤ c1_3) (h : spec_DiamondFault.f k a0_0 l0_1 a1_0 a1_1 a1_2 l1_3 = some (r1, r2)) :
  Calls Tryd.prog 30 #[.agg #[.int .i64 a0_0, .slice A0_1 l0_1.length c0_1], .agg #[.int .i64 a1_0, .int .i64 a1_1, .int .i64 a1_2, .slice A1_3 l1_3.length c1_3]] w fun e w' => ∃ v0_ : Value, e = .returned (.tuple #[v0_, .int .i64 r2]) ∧ Kd.R (Kd.int .i64) 2 w' w.heap.size (fun _ => True) v0_ r1 ∧ Below w.heap.size w w' := by
 have hu29 := Tryd.underlying29
 have hu48 := Tryd.underlying48
 have HR0_1 := Aside0.mk hr0_1
 have HC0_1 := Aside0.mk hc0_1
 clear hr0_1 hc0_1
 have HR1_3 := Aside0.mk hr1_3
 have HC1_3 := Aside0.mk hc1_3
 clear hr1_3 hc1_3
 have HB := Aside0.mk (Below.refl w.heap.size w)
 have H : ((spec_l11Over.f k a0_0 l0_1 a1_0 a1_1 a1_2 l1_3).bind fun t503 => (if t503 = 0 then ((spec_l11Fault.f k a0_0 l0_1 a1_0 a1_1 a1_2 l1_3).bind fun t504 => (if (t504.length : Int) = 0 then (some (([] : List Int), 4)) else (some (t504, 0)))) else (some (([] : List Int), t503)))) = some (r1, r2) := h
 clear h
 replace H := Option.bind_eq_some_iff.mp H
 obtain ⟨t503, A30, H⟩ := H
 replace H : (if t503 = 0 then ((spec_l11Fault.f k a0_0 l0_1 a1_0 a1_1 a1_2 l1_3).bind fun t504 => (if (t504.length : Int) = 0 then (some (([] : List Int), 4)) else (some (t504, 0)))) else (some (([] : List Int), t503))) = some (r1, r2) := H
 have A3 := Aside0.mk A30
 clear A30
 by_cases c4 : t503 = 0
 ·rw [if_pos c4] at H
  have c4b0 : (t503 == 0) = true := beq_iff_eq.mpr c4
  have c4b1 : (t503 != 0) = false := bne_eq_false_iff_eq.mpr c4
  clear c4
  replace H := Option.bind_eq_some_iff.mp H
  obtain ⟨t504, A50, H⟩ := H
  replace H : (if (t504.length : Int) = 0 then (some (([] : List Int), 4)) else (some (t504, 0))) = some (r1, r2) := H
  have A5 := Aside0.mk A50
  clear A50
  by_cases c6 : (t504.length : Int) = 0
  ·rw [if_pos c6] at H
   have c6b0 : ((t504.length : Int) == 0) = true := beq_iff_eq.mpr c6
   have c6b1 : ((t504.length : Int) != 0) = false := bne_eq_false_iff_eq.mpr c6
   clear c6
   simp only [Option.some.injEq, Prod.mk.injEq] at H
   obtain ⟨rfl, rfl⟩ := H
   go_enter Tryd.func30, Tryd.ntmps30
   go_wp2_with (first | ((with_reducible refine gate_dst (N := 2) rfl ?_); refine boxS (N := 2) (cs := #[.int .i64 a0_0, .slice A0_1 l0_1.length c0_1]) (t := 29) ?_; intro gb501 hg w7 hbox hb; have n0_ := Aside0.mk (below_step (bW) hb); have n1_ := Aside0.mk (hbox); have n2_ := geW (w := w) hg; have n3_ := geW (w := w) hg; clear HB; have HB := n0_; have BK501 := n1_; have GW501 := n2_; have GE501 := n3_; clear n0_ n1_ n2_ n3_ hb hbox hg) | ((with_reducible refine gate_dst (N := 3) rfl ?_); refine boxS (N := 3) (cs := #[.int .i64 a1_0, .int .i64 a1_1, .int .i64 a1_2, .slice A1_3 l1_3.length c1_3]) (t := 48) ?_; intro gb502 hg w8 hbox hb; have n0_ := Aside0.mk (blkB BK501.out hb); have n1_ := Aside0.mk (below_step (bW) hb); have n2_ := Aside0.mk (hbox); have n3_ := geW (w := w) hg; have n4_ := geW (w := w) hg; have n5_ := Aside0.mk ((by rw [hg]; exact Nat.ne_of_lt (blk_lt (g := gb501) (o := .cells #[.int .i64 a0_0, .slice A0_1 l0_1.length c0_1] 29 (0, 0)) (bP BK501.out)) : gb501 ≠ gb502)); have n6_ := Aside0.mk ((by rw [hg]; exact Nat.ne_of_gt (blk_lt (g := gb501) (o := .cells #[.int .i64 a0_0, .slice A0_1 l0_1.length c0_1] 29 (0, 0)) (bP BK501.out)) : gb502 ≠ gb501)); clear BK501 HB; have BK501 := n0_; have HB := n1_; have BK502 := n2_; have GW502 := n3_; have GE502 := n4_; have NB501_502 := n5_; have NB502_501 := n6_; clear n0_ n1_ n2_ n3_ n4_ n5_ n6_ hb hbox hg; have hnb9 := NB501_502.out; have hnc9 := NB502_501.out; obtain ⟨hcz10_0, hcz10_1⟩ := cells2 BK501.out; obtain ⟨hfz10_0, hfz10_1⟩ := frz2 BK501.out; obtain ⟨hcz11_0, hcz11_1, hcz11_2, hcz11_3⟩ := cells4 BK502.out; obtain ⟨hfz11_0, hfz11_1, hfz11_2, hfz11_3⟩ := frz4 BK502.out) | ((with_reducible refine gate_callee (f := 66) rfl ?_); refine goesS (some 10) Tryd.func66 #[.agg #[.int .i64 a0_0, .slice A0_1 l0_1.length c0_1], .agg #[.int .i64 a1_0, .int .i64 a1_1, .int .i64 a1_2, .slice A1_3 l1_3.length c1_3]] ?_; (with_reducible refine (spec_l11Over.calls k a0_0 _ _ l0_1 a1_0 a1_1 a1_2 _ _ l1_3 t503 _ ?side1 ?side2 ?side3 ?side4 A3.out).mono ?_); (case side1 => exact cP (Kd.C_below HR0_1.out HB.out)); (case side2 => exact HC0_1.out); (case side3 => exact cP (Kd.C_below HR1_3.out HB.out)); (case side4 => exact HC1_3.out); rintro e w12 ⟨rfl, hb⟩; refine ⟨_, rfl, ?_⟩; have n0_ := Aside0.mk (blkB BK501.out hb); have n1_ := Aside0.mk (blkB BK502.out hb); have n2_ := Aside0.mk (below_step (bW) hb); clear BK501 BK502 HB; have BK501 := n0_; have BK502 := n1_; have HB := n2_; clear n0_ n1_ n2_; (try clear hb); (try clear hb2); (try clear hk); (try clear hi); obtain ⟨hcz13_0, hcz13_1⟩ := cells2 BK501.out; obtain ⟨hfz13_0, hfz13_1⟩ := frz2 BK501.out; obtain ⟨hcz14_0, hcz14_1, hcz14_2, hcz14_3⟩ := cells4 BK502.out; obtain ⟨hfz14_0, hfz14_1, hfz14_2, hfz14_3⟩ := frz4 BK502.out) | ((with_reducible refine gate_callee (f := 67) rfl ?_); refine goesS (some 16) Tryd.func67 #[.agg #[.int .i64 a0_0, .slice A0_1 l0_1.length c0_1], .agg #[.int .i64 a1_0, .int .i64 a1_1, .int .i64 a1_2, .slice A1_3 l1_3.length c1_3]] ?_; (with_reducible refine (spec_l11Fault.calls k a0_0 _ _ l0_1 a1_0 a1_1 a1_2 _ _ l1_3 t504 _ ?side1 ?side2 ?side3 ?side4 A5.out).mono ?_); (case side1 => exact cP (Kd.C_below HR0_1.out HB.out)); (case side2 => exact HC0_1.out); (case side3 => exact cP (Kd.C_below HR1_3.out HB.out)); (case side4 => exact HC1_3.out); rintro e w15 ⟨v505, rfl, ho0, hb⟩; refine ⟨_, rfl, ?_⟩; have n0_ := Aside0.mk (Kd.R_lower ho0 (below_size (bW))); have n1_ := Aside0.mk (blkB BK501.out hb); have n2_ := Aside0.mk (blkB BK502.out hb); have n3_ := Aside0.mk (below_step (bW) hb); clear BK501 BK502 HB; have HO506 := n0_; have BK501 := n1_; have BK502 := n2_; have HB := n3_; clear n0_ n1_ n2_ n3_; (try clear hb); (try clear hb2); (try clear hk); (try clear hi); (try clear ho0); obtain ⟨Ao16, co16, eo16⟩ := Kd.R_slice HO506.out; subst eo16))
   go_ret2
   exact ⟨_, eW, by first | exact Kd.R_nil _ _ _ _ _ | exact Kd.N_nil _ _ _ _ _ | exact Kd.V_nil _ _ _ _ _ | exact Kd.Q_nil _ _ _ _ _ | exact Kd.S_nil _ _ _ _ _, bW⟩
  ·rw [if_neg c6] at H
   have c6b0 : ((t504.length : Int) == 0) = false := beq_eq_false_iff_ne.mpr c6
   have c6b1 : ((t504.length : Int) != 0) = true := bne_iff_ne.mpr c6
   have c6b2 : ¬ (t504 = []) := fun h_ => c6 (by rw [h_]; rfl)
   simp only [Option.some.injEq, Prod.mk.injEq] at H
   obtain ⟨rfl, rfl⟩ := H
   go_enter Tryd.func30, Tryd.ntmps30
   go_wp2_with (first | ((with_reducible refine gate_dst (N := 2) rfl ?_); refine boxS (N := 2) (cs := #[.int .i64 a0_0, .slice A0_1 l0_1.length c0_1]) (t := 29) ?_; intro gb501 hg w17 hbox hb; have n0_ := Aside0.mk (below_step (bW) hb); have n1_ := Aside0.mk (hbox); have n2_ := geW (w := w) hg; have n3_ := geW (w := w) hg; clear HB; have HB := n0_; have BK501 := n1_; have GW501 := n2_; have GE501 := n3_; clear n0_ n1_ n2_ n3_ hb hbox hg) | ((with_reducible refine gate_dst (N := 3) rfl ?_); refine boxS (N := 3) (cs := #[.int .i64 a1_0, .int .i64 a1_1, .int .i64 a1_2, .slice A1_3 l1_3.length c1_3]) (t := 48) ?_; intro gb502 hg w18 hbox hb; have n0_ := Aside0.mk (blkB BK501.out hb); have n1_ := Aside0.mk (below_step (bW) hb); have n2_ := Aside0.mk (hbox); have n3_ := geW (w := w) hg; have n4_ := geW (w := w) hg; have n5_ := Aside0.mk ((by rw [hg]; exact Nat.ne_of_lt (blk_lt (g := gb501) (o := .cells #[.int .i64 a0_0, .slice A0_1 l0_1.length c0_1] 29 (0, 0)) (bP BK501.out)) : gb501 ≠ gb502)); have n6_ := Aside0.mk ((by rw [hg]; exact Nat.ne_of_gt (blk_lt (g := gb501) (o := .cells #[.int .i64 a0_0, .slice A0_1 l0_1.length c0_1] 29 (0, 0)) (bP BK501.out)) : gb502 ≠ gb501)); clear BK501 HB; have BK501 := n0_; have HB := n1_; have BK502 := n2_; have GW502 := n3_; have GE502 := n4_; have NB501_502 := n5_; have NB502_501 := n6_; clear n0_ n1_ n2_ n3_ n4_ n5_ n6_ hb hbox hg; have hnb19 := NB501_502.out; have hnc19 := NB502_501.out; obtain ⟨hcz20_0, hcz20_1⟩ := cells2 BK501.out; obtain ⟨hfz20_0, hfz20_1⟩ := frz2 BK501.out; obtain ⟨hcz21_0, hcz21_1, hcz21_2, hcz21_3⟩ := cells4 BK502.out; obtain ⟨hfz21_0, hfz21_1, hfz21_2, hfz21_3⟩ := frz4 BK502.out) | ((with_reducible refine gate_callee (f := 66) rfl ?_); refine goesS (some 10) Tryd.func66 #[.agg #[.int .i64 a0_0, .slice A0_1 l0_1.length c0_1], .agg #[.int .i64 a1_0, .int .i64 a1_1, .int .i64 a1_2, .slice A1_3 l1_3.length c1_3]] ?_; (with_reducible refine (spec_l11Over.calls k a0_0 _ _ l0_1 a1_0 a1_1 a1_2 _ _ l1_3 t503 _ ?side1 ?side2 ?side3 ?side4 A3.out).mono ?_); (case side1 => exact cP (Kd.C_below HR0_1.out HB.out)); (case side2 => exact HC0_1.out); (case side3 => exact cP (Kd.C_below HR1_3.out HB.out)); (case side4 => exact HC1_3.out); rintro e w22 ⟨rfl, hb⟩; refine ⟨_, rfl, ?_⟩; have n0_ := Aside0.mk (blkB BK501.out hb); have n1_ := Aside0.mk (blkB BK502.out hb); have n2_ := Aside0.mk (below_step (bW) hb); clear BK501 BK502 HB; have BK501 := n0_; have BK502 := n1_; have HB := n2_; clear n0_ n1_ n2_; (try clear hb); (try clear hb2); (try clear hk); (try clear hi); obtain ⟨hcz23_0, hcz23_1⟩ := cells2 BK501.out; obtain ⟨hfz23_0, hfz23_1⟩ := frz2 BK501.out; obtain ⟨hcz24_0, hcz24_1, hcz24_2, hcz24_3⟩ := cells4 BK502.out; obtain ⟨hfz24_0, hfz24_1, hfz24_2, hfz24_3⟩ := frz4 BK502.out) | ((with_reducible refine gate_callee (f := 67) rfl ?_); refine goesS (some 16) Tryd.func67 #[.agg #[.int .i64 a0_0, .slice A0_1 l0_1.length c0_1], .agg #[.int .i64 a1_0, .int .i64 a1_1, .int .i64 a1_2, .slice A1_3 l1_3.length c1_3]] ?_; (with_reducible refine (spec_l11Fault.calls k a0_0 _ _ l0_1 a1_0 a1_1 a1_2 _ _ l1_3 t504 _ ?side1 ?side2 ?side3 ?side4 A5.out).mono ?_); (case side1 => exact cP (Kd.C_below HR0_1.out HB.out)); (case side2 => exact HC0_1.out); (case side3 => exact cP (Kd.C_below HR1_3.out HB.out)); (case side4 => exact HC1_3.out); rintro e w25 ⟨v505, rfl, ho0, hb⟩; refine ⟨_, rfl, ?_⟩; have n0_ := Aside0.mk (Kd.R_lower ho0 (below_size (bW))); have n1_ := Aside0.mk (blkB BK501.out hb); have n2_ := Aside0.mk (blkB BK502.out hb); have n3_ := Aside0.mk (below_step (bW) hb); clear BK501 BK502 HB; have HO506 := n0_; have BK501 := n1_; have BK502 := n2_; have HB := n3_; clear n0_ n1_ n2_ n3_; (try clear hb); (try clear hb2); (try clear hk); (try clear hi); (try clear ho0); obtain ⟨Ao26, co26, eo26⟩ := Kd.R_slice HO506.out; subst eo26))
   go_ret2
   exact ⟨_, eW, (rP HO506.out), bW⟩
 ·rw [if_neg c4] at H
  have c4b0 : (t503 == 0) = false := beq_eq_false_iff_ne.mpr c4
  have c4b1 : (t503 != 0) = true := bne_iff_ne.mpr c4
  simp only [Option.some.injEq, Prod.mk.injEq] at H
  obtain ⟨rfl, rfl⟩ := H
  go_enter Tryd.func30, Tryd.ntmps30
  go_wp2_with (first | ((with_reducible refine gate_dst (N := 2) rfl ?_); refine boxS (N := 2) (cs := #[.int .i64 a0_0, .slice A0_1 l0_1.length c0_1]) (t := 29) ?_; intro gb501 hg w27 hbox hb; have n0_ := Aside0.mk (below_step (bW) hb); have n1_ := Aside0.mk (hbox); have n2_ := geW (w := w) hg; have n3_ := geW (w := w) hg; clear HB; have HB := n0_; have BK501 := n1_; have GW501 := n2_; have GE501 := n3_; clear n0_ n1_ n2_ n3_ hb hbox hg) | ((with_reducible refine gate_dst (N := 3) rfl ?_); refine boxS (N := 3) (cs := #[.int .i64 a1_0, .int .i64 a1_1, .int .i64 a1_2, .slice A1_3 l1_3.length c1_3]) (t := 48) ?_; intro gb502 hg w28 hbox hb; have n0_ := Aside0.mk (blkB BK501.out hb); have n1_ := Aside0.mk (below_step (bW) hb); have n2_ := Aside0.mk (hbox); have n3_ := geW (w := w) hg; have n4_ := geW (w := w) hg; have n5_ := Aside0.mk ((by rw [hg]; exact Nat.ne_of_lt (blk_lt (g := gb501) (o := .cells #[.int .i64 a0_0, .slice A0_1 l0_1.length c0_1] 29 (0, 0)) (bP BK501.out)) : gb501 ≠ gb502)); have n6_ := Aside0.mk ((by rw [hg]; exact Nat.ne_of_gt (blk_lt (g := gb501) (o := .cells #[.int .i64 a0_0, .slice A0_1 l0_1.length c0_1] 29 (0, 0)) (bP BK501.out)) : gb502 ≠ gb501)); clear BK501 HB; have BK501 := n0_; have HB := n1_; have BK502 := n2_; have GW502 := n3_; have GE502 := n4_; have NB501_502 := n5_; have NB502_501 := n6_; clear n0_ n1_ n2_ n3_ n4_ n5_ n6_ hb hbox hg; have hnb29 := NB501_502.out; have hnc29 := NB502_501.out; obtain ⟨hcz30_0, hcz30_1⟩ := cells2 BK501.out; obtain ⟨hfz30_0, hfz30_1⟩ := frz2 BK501.out; obtain ⟨hcz31_0, hcz31_1, hcz31_2, hcz31_3⟩ := cells4 BK502.out; obtain ⟨hfz31_0, hfz31_1, hfz31_2, hfz31_3⟩ := frz4 BK502.out) | ((with_reducible refine gate_callee (f := 66) rfl ?_); refine goesS (some 10) Tryd.func66 #[.agg #[.int .i64 a0_0, .slice A0_1 l0_1.length c0_1], .agg #[.int .i64 a1_0, .int .i64 a1_1, .int .i64 a1_2, .slice A1_3 l1_3.length c1_3]] ?_; (with_reducible refine (spec_l11Over.calls k a0_0 _ _ l0_1 a1_0 a1_1 a1_2 _ _ l1_3 t503 _ ?side1 ?side2 ?side3 ?side4 A3.out).mono ?_); (case side1 => exact cP (Kd.C_below HR0_1.out HB.out)); (case side2 => exact HC0_1.out); (case side3 => exact cP (Kd.C_below HR1_3.out HB.out)); (case side4 => exact HC1_3.out); rintro e w32 ⟨rfl, hb⟩; refine ⟨_, rfl, ?_⟩; have n0_ := Aside0.mk (blkB BK501.out hb); have n1_ := Aside0.mk (blkB BK502.out hb); have n2_ := Aside0.mk (below_step (bW) hb); clear BK501 BK502 HB; have BK501 := n0_; have BK502 := n1_; have HB := n2_; clear n0_ n1_ n2_; (try clear hb); (try clear hb2); (try clear hk); (try clear hi)))
  go_ret2
  exact ⟨_, eW, by first | exact Kd.R_nil _ _ _ _ _ | exact Kd.N_nil _ _ _ _ _ | exact Kd.V_nil _ _ _ _ _ | exact Kd.Q_nil _ _ _ _ _ | exact Kd.S_nil _ _ _ _ _, bW⟩
end Go.Proofs.YthbaocejgjpfoaaDoor.P
end M2
