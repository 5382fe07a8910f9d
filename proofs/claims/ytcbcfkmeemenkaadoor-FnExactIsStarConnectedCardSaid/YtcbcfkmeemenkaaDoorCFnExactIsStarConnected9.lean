import Derived.ArgAppend
import Derived.Below
import Derived.BigQuiet
import Derived.ChangeSame
import Derived.ChangeShapes
import Derived.Deep.AppendLies
import Derived.Deep.CutBlock
import Derived.Deep.DeepCutAuto
import Derived.Deep.Draws
import Derived.Deep.LoopGhost
import Derived.Deep.OwnRows
import Derived.Deep.QuietTactic
import Derived.Deep.RegionHeld3
import Derived.Deep.Slices
import Derived.Deep.Strs
import Derived.KernelRfl
import Derived.Laws.BitsLemmas
import Derived.Laws.BytesArg
import Derived.Laws.IdiomCopy
import Derived.Laws.MakeOwn
import Derived.Laws.OwnMore
import Derived.Laws.Rows
import Derived.Laws.Slices
import Derived.Laws.StructEq
import Derived.Lib.AppendStr
import Derived.Lib.ConvBytes
import Derived.Lib.SliceRun
import Derived.Lib.SmallJoins
import Derived.Maps.AppendAt
import Derived.OrdersHeld
import Derived.OwnWalk
import Derived.RowKit
import Derived.RowKit3
import Derived.Shelf.Abstract
import Derived.Shelf.SlicesG.CompactI
import Derived.Shelf.SortM.Plain
import Derived.Shelf.SortM.SortNone
import Derived.Shelf.Spec.TrailingZeros
import Derived.Sort.Grow
import Derived.Tactics
import Derived.Test.YtcbcfkmeemenkaaDoorChecked
import Derived.Test.YtcbcfkmeemenkaaDoorProg
import Derived.WalkKit
import Derived.WideLaws
import Derived.Test.YtcbcfkmeemenkaaDoorCFnExactIsStarConnected0
import Derived.Test.YtcbcfkmeemenkaaDoorCFnExactIsStarConnected1
import Derived.Test.YtcbcfkmeemenkaaDoorCFnExactIsStarConnected2
import Derived.Test.YtcbcfkmeemenkaaDoorCFnExactIsStarConnected4
import Derived.Test.YtcbcfkmeemenkaaDoorCFnExactIsStarConnected5
import Derived.Test.YtcbcfkmeemenkaaDoorCFnExactIsStarConnected7
import Derived.Test.YtcbcfkmeemenkaaDoorCFnExactIsStarConnected8
section M0
namespace Go.Proofs.YtcbcfkmeemenkaaDoor.P
open Go.RowKit Go.Proofs.YtcbcfkmeemenkaaDoor.Sh Go.Proofs.YtcbcfkmeemenkaaDoorW.PrintWords Go.Proofs.YtcbcfkmeemenkaaDoorW.PrintLast Go.Proofs.YtcbcfkmeemenkaaDoorW.PrintMore
attribute [local go_sem] max2_int min2_int max_two min_two max_three min_three max_four min_four   -- for this text's walks alone
set_option linter.unusedVariables false
set_option linter.unusedSimpArgs false
/-! ### impl_isConnected: function 47 -/
mutual
def impl_isConnected.l0 : Nat → Int → Int → Int → List Int → Option (Bool)
 | 0, _, _, _, _ => none
 | k + 1, x1, x5, x429000, x429001 => (impl_members.f k x5).bind fun t431 => (impl_isConnected.l1 k x1 x5 x5 t431 (t431.length : Int) 0 x429000 x429001)
def impl_isConnected.l1 : Nat → Int → Int → Int → List Int → Int → Int → Int → List Int → Option (Bool)
 | 0, _, _, _, _, _, _, _, _ => none
 | k + 1, x1, x5, x6, x16, x17, x18, x429000, x429001 => if x18 < x17 then (if 0 ≤ x18 then (if x18 < (x16.length : Int) then (if 0 ≤ (rd x16 x18) then (if (rd x16 x18) < (x429001.length : Int) then (impl_isConnected.l1 k x1 x5 (Go.bits .or .i64 x6 (Go.bits .and .i64 (rd x429001 (rd x16 x18)) x1)) x16 x17 (wrap64 (x18 + 1)) x429000 x429001) else (none)) else (none)) else (none)) else (none)) else (if x6 = x5 then (some (x5 == x1)) else (impl_isConnected.l0 k x1 x6 x429000 x429001))
end
def impl_isConnected.f (k : Nat) (a0_0 : Int) (l0_1 : List Int) (a1 : Int) : Option (Bool) := if a1 = 0 then (some true) else ((impl_least.f a1).bind fun t429 => ((impl_one.f t429).bind fun t430 => (impl_isConnected.l0 k a1 t430 a0_0 l0_1)))
set_option maxHeartbeats 8000000 in
set_option maxRecDepth 100000 in
theorem impl_isConnected.calls (k : Nat) (a0_0 : Int) (A0_1 : Option Addr) (c0_1 : Nat) (l0_1 : List Int) (a1 : Int) (r : Bool) (w : World) (hr0_1 : Kd.C (Kd.int .i64) w A0_1 l0_1.length l0_1) (hc0_1 : l0_1.length ≤ c0_1) (h : impl_isConnected.f k a0_0 l0_1 a1 = some r) (hTab : Tab w) :
  Calls Tryd.prog 47 #[.agg #[.int .i64 a0_0, .slice A0_1 l0_1.length c0_1], .int .i64 a1] w fun e w' => e = .returned (.bool r) ∧ Below w.heap.size w w' := by
 have HTab := Aside0.mk hTab
 clear hTab
 have hu30 := Tryd.underlying30
 have HR0_1 := Aside0.mk hr0_1
 have HC0_1 := Aside0.mk hc0_1
 clear hr0_1 hc0_1
 have HB := Aside0.mk (Below.refl w.heap.size w)
 have H : (if a1 = 0 then (some true) else ((impl_least.f a1).bind fun t429 => ((impl_one.f t429).bind fun t430 => (impl_isConnected.l0 k a1 t430 a0_0 l0_1)))) = some r := h
 clear h
 by_cases c3 : a1 = 0
 ·rw [if_pos c3] at H
  have c3b0 : (a1 == 0) = true := beq_iff_eq.mpr c3
  have c3b1 : (a1 != 0) = false := bne_eq_false_iff_eq.mpr c3
  clear c3
  obtain rfl := Option.some.inj H
  go_enter Tryd.func47, Tryd.ntmps47
  go_wp2_with (first | ((with_reducible refine gate_dst (N := 2) rfl ?_); refine boxS (N := 2) (cs := #[.int .i64 a0_0, .slice A0_1 l0_1.length c0_1]) (t := 30) ?_; intro gb428 hg w4 hbox hb; have n0_ := Aside0.mk (below_step (bW) hb); have n1_ := Aside0.mk (hbox); have n2_ := geW (w := w) hg; have n3_ := geW (w := w) hg; clear HB; have HB := n0_; have BK428 := n1_; have GW428 := n2_; have GE428 := n3_; clear n0_ n1_ n2_ n3_ hb hbox hg))
  go_ret
  exact ⟨eW, bW⟩
 ·rw [if_neg c3] at H
  have c3b0 : (a1 == 0) = false := beq_eq_false_iff_ne.mpr c3
  have c3b1 : (a1 != 0) = true := bne_iff_ne.mpr c3
  replace H := Option.bind_eq_some_iff.mp H
  obtain ⟨t429, A50, H⟩ := H
  replace H : ((impl_one.f t429).bind fun t430 => (impl_isConnected.l0 k a1 t430 a0_0 l0_1)) = some r := H
  have A5 := Aside0.mk A50
  clear A50
  replace H := Option.bind_eq_some_iff.mp H
  obtain ⟨t430, A60, H⟩ := H
  replace H : (impl_isConnected.l0 k a1 t430 a0_0 l0_1) = some r := H
  have A6 := Aside0.mk A60
  clear A60
  have H' := Aside0.mk H
  clear H
  go_enter Tryd.func47, Tryd.ntmps47
  go_wp2_with (first | ((with_reducible refine gate_dst (N := 2) rfl ?_); refine boxS (N := 2) (cs := #[.int .i64 a0_0, .slice A0_1 l0_1.length c0_1]) (t := 30) ?_; intro gb428 hg w7 hbox hb; have n0_ := Aside0.mk (below_step (bW) hb); have n1_ := Aside0.mk (hbox); have n2_ := geW (w := w) hg; have n3_ := geW (w := w) hg; clear HB; have HB := n0_; have BK428 := n1_; have GW428 := n2_; have GE428 := n3_; clear n0_ n1_ n2_ n3_ hb hbox hg) | ((with_reducible refine gate_callee (f := 61) rfl ?_); refine goesS (some 12) Tryd.func61 #[.int .i64 a1] ?_; (with_reducible refine (impl_least.calls a1 t429 _ A5.out (tabW HTab.out)).mono ?_); rintro e w' ⟨rfl, ⟨nd, rfl⟩⟩; refine ⟨_, rfl, ?_⟩) | ((with_reducible refine gate_callee (f := 39) rfl ?_); refine goesS (some 13) Tryd.func39 #[.int .i64 t429] ?_; (with_reducible refine (impl_one.calls t429 t430 _ A6.out).mono ?_); rintro e w' ⟨rfl, ⟨nd, rfl⟩⟩; refine ⟨_, rfl, ?_⟩))
  go_loopg [5] k (fun kq v5 w' => ∃ (x5_1 : Int), v5 = .int .i64 x5_1 ∧ Aside0 (impl_isConnected.l0 kq a1 x5_1 a0_0 l0_1 = some r) ∧ Aside0 (kq ≤ k) ∧ Aside0 (w'.heap[gb428]? = some (.cells #[.int .i64 a0_0, (.slice A0_1 l0_1.length c0_1)] 30 (0, 0))) ∧ Aside0 (Below w.heap.size w w'))
  case atStart => exact ⟨(t430), (eW), H', ⟨Nat.le_refl _⟩, ⟨(bP BK428.out)⟩, ⟨bW⟩⟩
  case round =>
   clear H'
   try clear p2
   try clear c3
   try clear c3b0
   try clear c3b1
   try clear c4
   try clear c6
   obtain ⟨x5_1, rfl, HA, HK1, BK428, HB⟩ := hrel
   cases gk with
   | zero => exact absurd HA.out (by simp [impl_isConnected.l0])
   | succ k1 =>
    have H := HA.out
    clear HA
    simp only [impl_isConnected.l0] at H
    replace H := Option.bind_eq_some_iff.mp H
    obtain ⟨t431, A80, H⟩ := H
    replace H : (impl_isConnected.l1 k1 a1 x5_1 x5_1 t431 (t431.length : Int) 0 a0_0 l0_1) = some r := H
    have A8 := Aside0.mk A80
    clear A80
    have H' := Aside0.mk H
    clear H
    go_wp2_with (first | ((with_reducible refine gate_callee (f := 62) rfl ?_); refine goesS (some 16) Tryd.func62 #[.int .i64 x5_1] ?_; (with_reducible refine (impl_members.calls k1 x5_1 t431 _ A8.out (tabW HTab.out)).mono ?_); rintro e w9 ⟨v432, rfl, ho0, hb⟩; refine ⟨_, rfl, ?_⟩; have n0_ := Aside0.mk (Kd.R_lower ho0 (below_size (bW))); have n1_ := Aside0.mk (blkB BK428.out hb); have n2_ := Aside0.mk (below_step (bW) hb); clear BK428 HB; have HO433 := n0_; have BK428 := n1_; have HB := n2_; clear n0_ n1_ n2_; (try clear hb); (try clear hb2); (try clear hk); (try clear hi); (try clear ho0); obtain ⟨Ao10, co10, eo10⟩ := Kd.R_slice HO433.out; subst eo10))
    go_loopg [6, 18] k1 (fun kq v6 v18 w' => ∃ (x6_2 : Int) (x18_2 : Int), v6 = .int .i64 x6_2 ∧ v18 = .int .i64 x18_2 ∧ Aside0 (impl_isConnected.l1 kq a1 x5_1 x6_2 t431 (t431.length : Int) x18_2 a0_0 l0_1 = some r) ∧ Aside0 (kq ≤ k1) ∧ Aside0 (Kd.R (Kd.int .i64) 2 w' w.heap.size (fun _ => True) (.slice Ao10 t431.length co10) t431) ∧ Aside0 (w'.heap[gb428]? = some (.cells #[.int .i64 a0_0, (.slice A0_1 l0_1.length c0_1)] 30 (0, 0))) ∧ Aside0 (Below w.heap.size w w'))
    case atStart => exact ⟨(x5_1), (0), (eW), (eW), H', ⟨Nat.le_refl _⟩, ⟨(rP HO433.out)⟩, ⟨(bP BK428.out)⟩, ⟨bW⟩⟩
    case round =>
     clear H'
     try clear p2
     try clear c3
     try clear c3b0
     try clear c3b1
     try clear c4
     try clear c6
     try clear p2
     obtain ⟨x6_2, x18_2, rfl, rfl, HA, HK2, HO_16, BK428, HB⟩ := hrel
     cases gk with
     | zero => exact absurd HA.out (by simp [impl_isConnected.l1])
     | succ k2 =>
      have H := HA.out
      clear HA
      simp only [impl_isConnected.l1] at H
      by_cases c11 : x18_2 < (t431.length : Int)
      ·rw [if_pos c11] at H
       have c11b0 : decide (x18_2 < (t431.length : Int)) = true := decide_eq_true c11
       clear c11
       by_cases c12 : 0 ≤ x18_2
       ·rw [if_pos c12] at H
        have c12b0 : decide (0 ≤ x18_2) = true := decide_eq_true c12
        clear c12
        by_cases c13 : x18_2 < (t431.length : Int)
        ·rw [if_pos c13] at H
         have c13b0 : decide (x18_2 < (t431.length : Int)) = true := decide_eq_true c13
         clear c13
         by_cases c14 : 0 ≤ (rd t431 x18_2)
         ·rw [if_pos c14] at H
          have c14b0 : decide (0 ≤ (rd t431 x18_2)) = true := decide_eq_true c14
          clear c14
          by_cases c15 : (rd t431 x18_2) < (l0_1.length : Int)
          ·rw [if_pos c15] at H
           have c15b0 : decide ((rd t431 x18_2) < (l0_1.length : Int)) = true := decide_eq_true c15
           clear c15
           have H' := Aside0.mk H
           clear H
           have p434 : 0 ≤ (x18_2 : Int) := ofD
           have q434 : x18_2 < (t431.length : Int) := ofD
           obtain ⟨ad434, e434, hx434_0⟩ := Kd.at_int (Kd.R_reads' HO_16.out).2.2 x18_2 p434 q434
           cases e434
           replace p434 := eq_true p434
           replace q434 := eq_true q434
           have hcz16_0 : wr.cell? ⟨gb428, 0, none⟩ = some (.int .i64 a0_0) := (blk_cell BK428.out 0).trans rfl
           have hcz16_1 : wr.cell? ⟨gb428, 1, none⟩ = some (.slice A0_1 l0_1.length c0_1) := (blk_cell BK428.out 1).trans rfl
           have hfz16_0 := blk_frozen BK428.out 0
           have hfz16_1 := blk_frozen BK428.out 1
           have p435 : 0 ≤ ((rd t431 x18_2) : Int) := ofD
           have q435 : (rd t431 x18_2) < (l0_1.length : Int) := ofD
           obtain ⟨ad435, e435, hx435_0⟩ := Kd.at_int HR0_1.out (rd t431 x18_2) p435 q435
           cases e435
           replace hx435_0 := (HB.out.cell (World.block_lt_of_cell? w _ hx435_0)).trans hx435_0
           replace p435 := eq_true p435
           replace q435 := eq_true q435
           go_wp2
           go_roundg k2
           case measure => have := HK1.out; have := HK2.out; omega
           case rel => exact ⟨(Go.bits .or .i64 x6_2 (Go.bits .and .i64 (rd l0_1 (rd t431 x18_2)) a1)), (wrap64 (x18_2 + 1)), (eW), (eW), H', ⟨by have := HK1.out; have := HK2.out; omega⟩, ⟨(rP HO_16.out)⟩, ⟨(bP BK428.out)⟩, ⟨bW⟩⟩
          ·rw [if_neg c15] at H
           exact absurd H (by simp)
         ·rw [if_neg c14] at H
          exact absurd H (by simp)
        ·rw [if_neg c13] at H
         exact absurd H (by simp)
       ·rw [if_neg c12] at H
        exact absurd H (by simp)
      ·rw [if_neg c11] at H
       have c11b0 : decide (x18_2 < (t431.length : Int)) = false := decide_eq_false c11
       clear c11
       by_cases c17 : x6_2 = x5_1
       ·rw [if_pos c17] at H
        have c17b0 : (x6_2 == x5_1) = true := beq_iff_eq.mpr c17
        have c17b1 : (x6_2 != x5_1) = false := bne_eq_false_iff_eq.mpr c17
        clear c17
        obtain rfl := Option.some.inj H
        go_wp2
        go_ret
        exact ⟨eW, bW⟩
       ·rw [if_neg c17] at H
        have c17b0 : (x6_2 == x5_1) = false := beq_eq_false_iff_ne.mpr c17
        have c17b1 : (x6_2 != x5_1) = true := bne_iff_ne.mpr c17
        have H' := Aside0.mk H
        clear H
        go_wp2
        go_roundg k2
        case measure => have := HK1.out; have := HK2.out; omega
        case rel => exact ⟨(x6_2), (eW), H', ⟨by have := HK1.out; have := HK2.out; omega⟩, ⟨(bP BK428.out)⟩, ⟨bW⟩⟩
/-! ### impl_starFault: function 32 -/
mutual
def impl_starFault.l0 : Nat → List (S50) → List (S50) → Int → Int → Int → List Int → Option (Int × Int)
 | 0, _, _, _, _, _, _ => none
 | k + 1, x1, x10, x11, x12, x437000, x437001 => if x12 < x11 then (if 0 ≤ x12 then (if x12 < (x10.length : Int) then (if ((rd_T50 x10 x12).f0) = 5 then (if x12 ≤ (x1.length : Int) then ((impl_parts.f k (x1.drop (x12 : Int).toNat)).bind fun t443 => (if 0 < (t443.length : Int) then ((impl_contents.f k (rd_L6 t443 0)).bind fun t447 => (impl_starFault.l1 k x1 x12 x10 x11 x12 t447 (t447.length : Int) 0 x437000 x437001)) else (none))) else (none)) else (impl_starFault.l0 k x1 x10 x11 (wrap64 (x12 + 1)) x437000 x437001)) else (none)) else (none)) else (some ((-1), 0))
def impl_starFault.l1 : Nat → List (S50) → Int → List (S50) → Int → Int → List Int → Int → Int → Int → List Int → Option (Int × Int)
 | 0, _, _, _, _, _, _, _, _, _, _ => none
 | k + 1, x1, x6, x10, x11, x12, x26, x27, x28, x437000, x437001 => if x28 < x27 then (if 0 ≤ x28 then (if x28 < (x26.length : Int) then ((impl_isConnected.f k x437000 x437001 (rd x26 x28)).bind fun t451 => (if t451 = true then (impl_starFault.l1 k x1 x6 x10 x11 x12 x26 x27 (wrap64 (x28 + 1)) x437000 x437001) else (some (x6, rd x26 x28)))) else (none)) else (none)) else (impl_starFault.l0 k x1 x10 x11 (wrap64 (x12 + 1)) x437000 x437001)
end
def impl_starFault.f (k : Nat) (a0_0 : Int) (l0_1 : List Int) (l1 : List (S50)) : Option (Int × Int) := impl_starFault.l0 k l1 l1 (l1.length : Int) 0 a0_0 l0_1
set_option maxHeartbeats 8000000 in
set_option maxRecDepth 100000 in
theorem impl_starFault.calls (k : Nat) (a0_0 : Int) (A0_1 : Option Addr) (c0_1 : Nat) (l0_1 : List Int) (A1 : Option Addr) (c1 : Nat) (l1 : List (S50)) (r1 : Int) (r2 : Int) (w : World) (hr0_1 : Kd.C (Kd.int .i64) w A0_1 l0_1.length l0_1) (hc0_1 : l0_1.length ≤ c0_1) (hr1 : Kd.C k50 w A1 l1.length l1) (hc1 : l1.length ≤ c1) (h : impl_starFault.f k a0_0 l0_1 l1 = some (r1, r2)) (hTab : Tab w) :
  Calls Tryd.prog 32 #[.agg #[.int .i64 a0_0, .slice A0_1 l0_1.length c0_1], .slice A1 l1.length c1] w fun e w' => e = .returned (.tuple #[.int .i64 r1, .int .i64 r2]) ∧ Below w.heap.size w w' := by
 have HTab := Aside0.mk hTab
 clear hTab
 have hu30 := Tryd.underlying30
 have hu50 := Tryd.underlying50
 have HR0_1 := Aside0.mk hr0_1
 have HC0_1 := Aside0.mk hc0_1
 clear hr0_1 hc0_1
 have HR1 := Aside0.mk hr1
 have HC1 := Aside0.mk hc1
 clear hr1 hc1
 have HB := Aside0.mk (Below.refl w.heap.size w)
 have H : (impl_starFault.l0 k l1 l1 (l1.length : Int) 0 a0_0 l0_1) = some (r1, r2) := h
 clear h
 have H' := Aside0.mk H
 clear H
 go_enter Tryd.func32, Tryd.ntmps32
 go_wp2_with (first | ((with_reducible refine gate_dst (N := 2) rfl ?_); refine boxS (N := 2) (cs := #[.int .i64 a0_0, .slice A0_1 l0_1.length c0_1]) (t := 30) ?_; intro gb436 hg w3 hbox hb; have n0_ := Aside0.mk (below_step (bW) hb); have n1_ := Aside0.mk (hbox); have n2_ := geW (w := w) hg; have n3_ := geW (w := w) hg; clear HB; have HB := n0_; have BK436 := n1_; have GW436 := n2_; have GE436 := n3_; clear n0_ n1_ n2_ n3_ hb hbox hg))
 go_loopg [12] k (fun kq v12 w' => ∃ (x12_1 : Int), v12 = .int .i64 x12_1 ∧ Aside0 (impl_starFault.l0 kq l1 l1 (l1.length : Int) x12_1 a0_0 l0_1 = some (r1, r2)) ∧ Aside0 (kq ≤ k) ∧ Aside0 (w'.heap[gb436]? = some (.cells #[.int .i64 a0_0, (.slice A0_1 l0_1.length c0_1)] 30 (0, 0))) ∧ Aside0 (Below w.heap.size w w'))
 case atStart => exact ⟨(0), (eW), H', ⟨Nat.le_refl _⟩, ⟨(bP BK436.out)⟩, ⟨bW⟩⟩
 case round =>
  clear H'
  try clear c1
  try clear p2
  try clear c3
  obtain ⟨x12_1, rfl, HA, HK1, BK436, HB⟩ := hrel
  cases gk with
  | zero => exact absurd HA.out (by simp [impl_starFault.l0])
  | succ k1 =>
   have H := HA.out
   clear HA
   simp only [impl_starFault.l0] at H
   by_cases c4 : x12_1 < (l1.length : Int)
   ·rw [if_pos c4] at H
    have c4b0 : decide (x12_1 < (l1.length : Int)) = true := decide_eq_true c4
    clear c4
    by_cases c5 : 0 ≤ x12_1
    ·rw [if_pos c5] at H
     have c5b0 : decide (0 ≤ x12_1) = true := decide_eq_true c5
     clear c5
     by_cases c6 : x12_1 < (l1.length : Int)
     ·rw [if_pos c6] at H
      have c6b0 : decide (x12_1 < (l1.length : Int)) = true := decide_eq_true c6
      clear c6
      by_cases c7 : ((rd_T50 l1 x12_1).f0) = 5
      ·rw [if_pos c7] at H
       have c7b0 : (((rd_T50 l1 x12_1).f0) == 5) = true := beq_iff_eq.mpr c7
       have c7b1 : (((rd_T50 l1 x12_1).f0) != 5) = false := bne_eq_false_iff_eq.mpr c7
       clear c7
       have c8b0 := eq_true (ofD : 0 ≤ x12_1)
       by_cases c9 : x12_1 ≤ (l1.length : Int)
       ·rw [if_pos c9] at H
        have c9b0 := eq_true c9
        have c9b1 : decide (x12_1 ≤ (l1.length : Int)) = true := decide_eq_true c9
        clear c9
        obtain ⟨y439, hy439⟩ : ∃ y_ : List (S50), y_ = (l1.drop (x12_1 : Int).toNat) := ⟨_, rfl⟩
        replace H : ((impl_parts.f k1 y439).bind fun t443 => (if 0 < (t443.length : Int) then ((impl_contents.f k1 (rd_L6 t443 0)).bind fun t447 => (impl_starFault.l1 k1 l1 x12_1 l1 (l1.length : Int) x12_1 t447 (t447.length : Int) 0 a0_0 l0_1)) else (none))) = some (r1, r2) := by first | (rw [hy439]; with_reducible exact H) | (have H2_ := (Option.bind_some _ _).symm.trans H; rw [hy439]; with_reducible exact H2_) | (have H2_ := (Option.bind_some _ _).symm.trans H; with_reducible exact H2_) | with_reducible exact H | (rw [hy439]; exact H) | exact H
        have Ny439 := Aside0.mk hy439
        clear hy439
        replace H := Option.bind_eq_some_iff.mp H
        obtain ⟨t443, A100, H⟩ := H
        replace H : (if 0 < (t443.length : Int) then ((impl_contents.f k1 (rd_L6 t443 0)).bind fun t447 => (impl_starFault.l1 k1 l1 x12_1 l1 (l1.length : Int) x12_1 t447 (t447.length : Int) 0 a0_0 l0_1)) else (none)) = some (r1, r2) := H
        have A10 := Aside0.mk A100
        clear A100
        by_cases c11 : 0 < (t443.length : Int)
        ·rw [if_pos c11] at H
         have c11b0 : decide (0 < (t443.length : Int)) = true := decide_eq_true c11
         have c11b1 : decide (0 < t443.length) = true := decide_eq_true (by omega)
         clear c11
         replace H := Option.bind_eq_some_iff.mp H
         obtain ⟨t447, A120, H⟩ := H
         replace H : (impl_starFault.l1 k1 l1 x12_1 l1 (l1.length : Int) x12_1 t447 (t447.length : Int) 0 a0_0 l0_1) = some (r1, r2) := H
         have A12 := Aside0.mk A120
         clear A120
         have H' := Aside0.mk H
         clear H
         have p437 : 0 ≤ (x12_1 : Int) := ofD
         have q437 : x12_1 < (l1.length : Int) := ofD
         obtain ⟨ad437, e437, hx437_0, hx437_1⟩ := at_T50 HR1.out x12_1 p437 q437
         cases e437
         replace hx437_0 := (HB.out.cell (World.block_lt_of_cell? w _ hx437_0)).trans hx437_0
         replace hx437_1 := (HB.out.cell (World.block_lt_of_cell? w _ hx437_1)).trans hx437_1
         replace p437 := eq_true p437
         replace q437 := eq_true q437
         go_wp2_with (first | ((with_reducible refine gate_dst (N := 7) rfl ?_); refine boxS (N := 7) (cs := #[.int .i64 0, .int .i64 0]) (t := 50) ?_; intro gb438 hg w13 hbox hb; have n0_ := Aside0.mk (blkB BK436.out hb); have n1_ := Aside0.mk (below_step (bW) hb); have n2_ := Aside0.mk (hbox); have n3_ := geW (w := w) hg; have n4_ := geW (w := w) hg; have n5_ := Aside0.mk ((by rw [hg]; exact Nat.ne_of_lt (blk_lt (g := gb436) (o := .cells #[.int .i64 a0_0, .slice A0_1 l0_1.length c0_1] 30 (0, 0)) (bP BK436.out)) : gb436 ≠ gb438)); have n6_ := Aside0.mk ((by rw [hg]; exact Nat.ne_of_gt (blk_lt (g := gb436) (o := .cells #[.int .i64 a0_0, .slice A0_1 l0_1.length c0_1] 30 (0, 0)) (bP BK436.out)) : gb438 ≠ gb436)); clear BK436 HB; have BK436 := n0_; have HB := n1_; have BK438 := n2_; have GW438 := n3_; have GE438 := n4_; have NB436_438 := n5_; have NB438_436 := n6_; clear n0_ n1_ n2_ n3_ n4_ n5_ n6_ hb hbox hg; have hnb14 := NB438_436.out; have hnc14 := NB436_438.out; obtain ⟨hcz15_0, hcz15_1⟩ := cells2 BK438.out; obtain ⟨hfz15_0, hfz15_1⟩ := frz2 BK438.out) | ((with_reducible refine gate_store (t := 50) (p := 7) rfl ?_); refine store_event (t := 50) (p := 7) (v := ?vo_w16) (w1 := ((w13.setCell ⟨gb438, 0, none⟩ (.int .i64 ((rd_T50 l1 x12_1).f0))).setCell ⟨gb438, 1, none⟩ (.int .i64 ((rd_T50 l1 x12_1).f1)))) ?hg ?ho ?hn ?hr ?_; (case ho => rfl); (case hg => rfl); (case hn => rfl); (case hr => first | (go_simp; done) | (go_simp; rfl)); intro w16 hw; have n0_ : Aside0 (w16.heap[gb436]? = some (.cells #[.int .i64 a0_0, .slice A0_1 l0_1.length c0_1] 30 (0, 0))) := ⟨(by rw [hw]; exact (by (with_reducible repeat (first | refine blk_drewN ?_ _ | refine blk_drew ?_ | refine blk_alloc ?_ _)); refine blk_far ?_ NB436_438.out _; (with_reducible repeat (first | refine blk_drewN ?_ _ | refine blk_drew ?_ | refine blk_alloc ?_ _)); refine blk_far ?_ NB436_438.out _; exact bP BK436.out))⟩; have n1_ : Aside0 (w16.heap[gb438]? = some (.cells #[.int .i64 ((rd_T50 l1 x12_1).f0), .int .i64 ((rd_T50 l1 x12_1).f1)] 50 (0, 0))) := ⟨(by rw [hw]; exact (by (with_reducible repeat (first | refine blk_drewN ?_ _ | refine blk_drew ?_ | refine blk_alloc ?_ _)); refine blk_put (cs := #[.int .i64 ((rd_T50 l1 x12_1).f0), .int .i64 0]) ?_ 1 _ rfl; (with_reducible repeat (first | refine blk_drewN ?_ _ | refine blk_drew ?_ | refine blk_alloc ?_ _)); refine blk_put (cs := #[.int .i64 0, .int .i64 0]) ?_ 0 _ rfl; exact bP BK438.out))⟩; have n2_ : Aside0 (Below w.heap.size w w16) := ⟨(by rw [hw]; exact (bW))⟩; clear hw BK436 BK438 HB; have BK436 := n0_; have BK438 := n1_; have HB := n2_; clear n0_ n1_ n2_; obtain ⟨hcz17_0, hcz17_1⟩ := cells2 BK438.out; obtain ⟨hfz17_0, hfz17_1⟩ := frz2 BK438.out; have q18 : (x12_1 : Int) ≤ ((l1.length : Int) : Int) := ofD; obtain ⟨i018, hi018, _, hsz18, _⟩ := info_parts info50; have hroom18 : l1.length ≤ c1 := HC1.out; have hC18 : Kd.C k50 _ (some ad437) l1.length l1 := HR1.out; have q018 : (0 : Int) ≤ (x12_1 : Int) := ofD; have hcut18 := cut_from (P := Tryd.prog) 32 50 .i64 Tryd.underlying32 hi018 2 hsz18 (some ad437) l1.length c1 x12_1 q018 q18; have hr18 := Kd.C_drop (m := (x12_1 : Int).toNat) (c := c1) hC18 (by omega) hroom18; obtain ⟨A18, hA18⟩ : ∃ Ab_, Ab_ = (if c1 = (x12_1 : Int).toNat then (some ad437) else ((some ad437) : Option Addr).map (·.add ((x12_1 : Int).toNat * 2))) := ⟨_, rfl⟩; obtain ⟨c18, hc18⟩ : ∃ cb_, cb_ = c1 - (x12_1 : Int).toNat := ⟨_, rfl⟩; have hy18 : y439.length = l1.length - (x12_1 : Int).toNat := (by rw [Ny439.out, List.length_drop] <;> omega); rw [show (l1).drop (x12_1 : Int).toNat = y439 from Ny439.out.symm] at hr18; replace hr18 : Kd.C k50 _ A18 y439.length y439 := (by rw [hA18]; exact hr18); rw [← hy18, ← hA18, ← hc18] at hcut18; have HR442 := Aside0.mk hr18; have HC442 := Aside0.mk (show y439.length ≤ c18 from by rw [hy18, hc18]; exact Nat.sub_le_sub_right hroom18 _); clear hr18 hC18 hroom18 hi018 hsz18 hc18; have KY18 := Aside0.mk hy18; have KA18 := Aside0.mk hA18; clear hy18 hA18; replace q18 := eq_true q18) | ((with_reducible refine gate_callee (f := 40) rfl ?_); refine goesS (some 23) Tryd.func40 #[.slice A18 y439.length c18] ?_; (with_reducible refine (impl_parts.calls k1 (fun k_ => k_ < w.heap.size) _ _ y439 t443 _ ?side1 A10.out).mono ?_); (case side1 => exact Kd.V_mk HC442.out (Kd.F_below (Kd.C_F k50_heap HR442.out) (bW))); rintro e w19 ⟨v444, rfl, ho0, hb⟩; refine ⟨_, rfl, ?_⟩; have n0_ := Aside0.mk (Kd.N_lower (Kd.N_mono (ok' := fun k_ => k_ ≠ gb436 ∧ k_ ≠ gb438) ho0 (fun k_ hk_ => ⟨Or.elim hk_ (fun hs_ => fun e_ => Nat.not_le.2 hs_ (by rw [e_]; exact GW436.out)) (fun hn_ => (Kd.freshB (g := gb436) (o := .cells #[.int .i64 a0_0, .slice A0_1 l0_1.length c0_1] 30 (0, 0)) (bP BK436.out) k_ hn_)), Or.elim hk_ (fun hs_ => fun e_ => Nat.not_le.2 hs_ (by rw [e_]; exact GW438.out)) (fun hn_ => (Kd.freshB (g := gb438) (o := .cells #[.int .i64 ((rd_T50 l1 x12_1).f0), .int .i64 ((rd_T50 l1 x12_1).f1)] 50 (0, 0)) (bP BK438.out) k_ hn_))⟩)) (below_size (bW))); have n1_ := Aside0.mk (blkB BK436.out hb); have n2_ := Aside0.mk (blkB BK438.out hb); have n3_ := Aside0.mk (below_step (bW) hb); clear BK436 BK438 HB; have HO445 := n0_; have BK436 := n1_; have BK438 := n2_; have HB := n3_; clear n0_ n1_ n2_ n3_; (try clear hb); (try clear hb2); (try clear hk); (try clear hi); (try clear ho0); obtain ⟨Ao20, co20, eo20⟩ := Kd.N_slice HO445.out; subst eo20; have p446 : 0 ≤ (0 : Int) := (by omega); have q446 : 0 < (t443.length : Int) := ofD; obtain ⟨ad446, A446_0, c446_0, e446, hx446_0, hl446_0, hi446_0⟩ := at_L6 (Kd.N_reads' HO445.out).2.2 0 p446 q446; cases e446; obtain ⟨ce446, hce446, hMe446, hcc446⟩ := Kd.N_get HO445.out [] 0 p446 (by first | exact q446 | exact ofD | (have e_ := (Kd.N_reads' HO445.out).1; omega)); obtain ⟨ua446_0, uc446_0, rfl, ul446_0, ge446_0⟩ := Kd.FK_slice_open hMe446; have hv446_0 := hcc446 0 _ rfl; rw [Nat.add_zero, show ((Kd.slice 50 k50)).sz = 1 from rfl, Nat.mul_one] at hv446_0; replace hv446_0 := Option.some.inj (hv446_0.symm.trans hx446_0); injection hv446_0 with hva_ hvn_ hvc_; rw [hva_] at ge446_0; rw [hvc_] at ul446_0; have HL446_0 := Aside0.mk (show Kd.V k50 50 _ w.heap.size _ _ (rd_L6 t443 0) from Kd.V_mk ul446_0 ge446_0); clear hva_ hvn_ hvc_ ge446_0 ul446_0 hcc446 hce446; have qi446 : (0 < t443.length) = True := eq_true (by omega); (try rw [show ((0 : Int)).toNat = 0 from rfl] at hx446_0); (try rw [Addr.add_zero'] at hx446_0); have HR446_0 := Aside0.mk hi446_0; have HC446_0 := Aside0.mk hl446_0; clear hi446_0 hl446_0; replace p446 := eq_true p446; replace q446 := eq_true q446) | ((with_reducible refine gate_callee (f := 29) rfl ?_); refine goesS (some 26) Tryd.func29 #[.slice A446_0 (rd_L6 t443 0).length c446_0] ?_; (with_reducible refine (impl_contents.calls k1 _ _ (rd_L6 t443 0) t447 _ ?side1 ?side2 A12.out).mono ?_); (case side1 => exact cP (by repeat (first | (with_reducible exact HR446_0.out) | (with_reducible refine Kd.C_alloc ?_ _) | (with_reducible refine Kd.C_drewN ?_ _) | (with_reducible refine Kd.C_drew ?_) | exact HR446_0.out))); (case side2 => exact HC446_0.out); rintro e w21 ⟨v448, rfl, ho0, hb⟩; refine ⟨_, rfl, ?_⟩; have n0_ := Aside0.mk (Kd.N_elder' (by (with_reducible repeat (first | apply Kd.N_alloc | apply Kd.N_drewN | apply Kd.N_drew)); exact HO445.out) (Kd.R_base ho0) hb); have n1_ := Aside0.mk (Kd.V_elder' (by (with_reducible repeat (first | apply Kd.V_alloc | apply Kd.V_drewN | apply Kd.V_drew)); exact HL446_0.out) (Kd.R_base ho0) hb); have n2_ := Aside0.mk (Kd.R_lower ho0 (below_size (bW))); have n3_ := Aside0.mk (blkB BK436.out hb); have n4_ := Aside0.mk (blkB BK438.out hb); have n5_ := Aside0.mk (Kd.C_below (by repeat (first | (with_reducible exact HR446_0.out) | (with_reducible refine Kd.C_alloc ?_ _) | (with_reducible refine Kd.C_drewN ?_ _) | (with_reducible refine Kd.C_drew ?_) | exact HR446_0.out)) hb); have n6_ := Aside0.mk (below_step (bW) hb); clear HO445 HL446_0 BK436 BK438 HR446_0 HB; have HO445 := n0_; have HL446_0 := n1_; have HO449 := n2_; have BK436 := n3_; have BK438 := n4_; have HR446_0 := n5_; have HB := n6_; clear n0_ n1_ n2_ n3_ n4_ n5_ n6_; (try clear hb); (try clear hb2); (try clear hk); (try clear hi); (try clear ho0); obtain ⟨Ao22, co22, eo22⟩ := Kd.R_slice HO449.out; subst eo22))
         go_loopg [28] k1 (fun kq v28 w' => ∃ (x28_2 : Int), v28 = .int .i64 x28_2 ∧ Aside0 (impl_starFault.l1 kq l1 x12_1 l1 (l1.length : Int) x12_1 t447 (t447.length : Int) x28_2 a0_0 l0_1 = some (r1, r2)) ∧ Aside0 (kq ≤ k1) ∧ Aside0 (Kd.R (Kd.int .i64) 2 w' w.heap.size (fun _ => True) (.slice Ao22 t447.length co22) t447) ∧ Aside0 (w'.heap[gb436]? = some (.cells #[.int .i64 a0_0, (.slice A0_1 l0_1.length c0_1)] 30 (0, 0))) ∧ Aside0 (w'.heap[gb438]? = some (.cells #[.int .i64 ((rd_T50 l1 x12_1).f0), .int .i64 ((rd_T50 l1 x12_1).f1)] 50 (0, 0))) ∧ Aside0 (Kd.C k50 w' A446_0 (rd_L6 t443 0).length (rd_L6 t443 0)) ∧ Aside0 (Below w.heap.size w w'))
         case atStart => exact ⟨(0), (eW), H', ⟨Nat.le_refl _⟩, ⟨(rP HO449.out)⟩, ⟨(bP BK436.out)⟩, ⟨(bP BK438.out)⟩, ⟨by repeat (first | (with_reducible exact HR446_0.out) | (with_reducible refine Kd.C_alloc ?_ _) | (with_reducible refine Kd.C_drewN ?_ _) | (with_reducible refine Kd.C_drew ?_) | exact HR446_0.out)⟩, ⟨bW⟩⟩
         case round =>
          clear H'
          try clear c1
          try clear q1
          try clear c2
          try clear p2
          try clear c3
          try clear c4
          try clear c4b0
          try clear p4
          try clear q4
          try clear hx4
          try clear qi4
          try clear c5
          try clear c5b0
          try clear c6
          try clear c6b0
          try clear c7
          try clear c7b0
          try clear c7b1
          try clear c8
          try clear c8b0
          try clear c9
          try clear c9b0
          try clear c9b1
          try clear c11
          try clear c11b0
          try clear c11b1
          try clear c14
          try clear c18
          try clear q18
          try clear hcz15_0
          try clear hcz15_1
          try clear hcz17_0
          try clear hcz17_1
          try clear hfz15_0
          try clear hfz15_1
          try clear hfz17_0
          try clear hfz17_1
          try clear hx437_0
          try clear hx437_1
          try clear hx446_0
          try clear p2
          try clear p437
          try clear p446
          try clear q018
          try clear q18
          try clear q437
          try clear q446
          obtain ⟨x28_2, rfl, HA, HK2, HO_26, BK436, BK438, HR446_0, HB⟩ := hrel
          cases gk with
          | zero => exact absurd HA.out (by simp [impl_starFault.l1])
          | succ k2 =>
           have H := HA.out
           clear HA
           simp only [impl_starFault.l1] at H
           by_cases c23 : x28_2 < (t447.length : Int)
           ·rw [if_pos c23] at H
            have c23b0 : decide (x28_2 < (t447.length : Int)) = true := decide_eq_true c23
            clear c23
            by_cases c24 : 0 ≤ x28_2
            ·rw [if_pos c24] at H
             have c24b0 : decide (0 ≤ x28_2) = true := decide_eq_true c24
             clear c24
             by_cases c25 : x28_2 < (t447.length : Int)
             ·rw [if_pos c25] at H
              have c25b0 : decide (x28_2 < (t447.length : Int)) = true := decide_eq_true c25
              clear c25
              replace H := Option.bind_eq_some_iff.mp H
              obtain ⟨t451, A260, H⟩ := H
              replace H : (if t451 = true then (impl_starFault.l1 k2 l1 x12_1 l1 (l1.length : Int) x12_1 t447 (t447.length : Int) (wrap64 (x28_2 + 1)) a0_0 l0_1) else (some (x12_1, rd t447 x28_2))) = some (r1, r2) := H
              have A26 := Aside0.mk A260
              clear A260
              by_cases c27 : t451 = true
              ·subst c27
               have H1 : (impl_starFault.l1 k2 l1 x12_1 l1 (l1.length : Int) x12_1 t447 (t447.length : Int) (wrap64 (x28_2 + 1)) a0_0 l0_1) = some (r1, r2) := by rw [if_pos rfl] at H; exact H
               clear H
               have H := H1
               clear H1
               have H' := Aside0.mk H
               clear H
               have p450 : 0 ≤ (x28_2 : Int) := ofD
               have q450 : x28_2 < (t447.length : Int) := ofD
               obtain ⟨ad450, e450, hx450_0⟩ := Kd.at_int (Kd.R_reads' HO_26.out).2.2 x28_2 p450 q450
               cases e450
               replace p450 := eq_true p450
               replace q450 := eq_true q450
               have hnb28 := NB436_438.out
               have hnc28 := NB438_436.out
               have hcz29_0 : wr.cell? ⟨gb436, 0, none⟩ = some (.int .i64 a0_0) := (blk_cell BK436.out 0).trans rfl
               have hcz29_1 : wr.cell? ⟨gb436, 1, none⟩ = some (.slice A0_1 l0_1.length c0_1) := (blk_cell BK436.out 1).trans rfl
               have hfz29_0 := blk_frozen BK436.out 0
               have hfz29_1 := blk_frozen BK436.out 1
               go_wp2_with (first | ((with_reducible refine gate_callee (f := 47) rfl ?_); refine goesS (some 34) Tryd.func47 #[.agg #[.int .i64 a0_0, .slice A0_1 l0_1.length c0_1], .int .i64 (rd t447 x28_2)] ?_; (with_reducible refine (impl_isConnected.calls k2 a0_0 _ _ l0_1 (rd t447 x28_2) true _ ?side1 ?side2 A26.out (tabW HTab.out)).mono ?_); (case side1 => exact cP (Kd.C_below HR0_1.out HB.out)); (case side2 => exact HC0_1.out); rintro e w30 ⟨rfl, hb⟩; refine ⟨_, rfl, ?_⟩; have n0_ := Aside0.mk (Kd.R_below (rP HO_26.out) hb); have n1_ := Aside0.mk (blkB BK436.out hb); have n2_ := Aside0.mk (blkB BK438.out hb); have n3_ := Aside0.mk (Kd.C_below (by repeat (first | (with_reducible exact HR446_0.out) | (with_reducible refine Kd.C_alloc ?_ _) | (with_reducible refine Kd.C_drewN ?_ _) | (with_reducible refine Kd.C_drew ?_) | exact HR446_0.out)) hb); have n4_ := Aside0.mk (below_step (bW) hb); clear HO_26 BK436 BK438 HR446_0 HB; have HO_26 := n0_; have BK436 := n1_; have BK438 := n2_; have HR446_0 := n3_; have HB := n4_; clear n0_ n1_ n2_ n3_ n4_; (try clear hb); (try clear hb2); (try clear hk); (try clear hi)))
               go_roundg k2
               case measure => have := HK1.out; have := HK2.out; omega
               case rel => exact ⟨(wrap64 (x28_2 + 1)), (eW), H', ⟨by have := HK1.out; have := HK2.out; omega⟩, ⟨(rP HO_26.out)⟩, ⟨(bP BK436.out)⟩, ⟨(bP BK438.out)⟩, ⟨by repeat (first | (with_reducible exact HR446_0.out) | (with_reducible refine Kd.C_alloc ?_ _) | (with_reducible refine Kd.C_drewN ?_ _) | (with_reducible refine Kd.C_drew ?_) | exact HR446_0.out)⟩, ⟨bW⟩⟩
              ·replace c27 := Bool.eq_false_iff.mpr c27
               subst c27
               have H1 : (some (x12_1, rd t447 x28_2)) = some (r1, r2) := by rw [if_neg (show ¬ (false = true) by decide)] at H; exact H
               clear H
               have H := H1
               clear H1
               simp only [Option.some.injEq, Prod.mk.injEq] at H
               obtain ⟨rfl, rfl⟩ := H
               have p450 : 0 ≤ (x28_2 : Int) := ofD
               have q450 : x28_2 < (t447.length : Int) := ofD
               obtain ⟨ad450, e450, hx450_0⟩ := Kd.at_int (Kd.R_reads' HO_26.out).2.2 x28_2 p450 q450
               cases e450
               replace p450 := eq_true p450
               replace q450 := eq_true q450
               have hnb31 := NB436_438.out
               have hnc31 := NB438_436.out
               have hcz32_0 : wr.cell? ⟨gb436, 0, none⟩ = some (.int .i64 a0_0) := (blk_cell BK436.out 0).trans rfl
               have hcz32_1 : wr.cell? ⟨gb436, 1, none⟩ = some (.slice A0_1 l0_1.length c0_1) := (blk_cell BK436.out 1).trans rfl
               have hfz32_0 := blk_frozen BK436.out 0
               have hfz32_1 := blk_frozen BK436.out 1
               go_wp2_with (first | ((with_reducible refine gate_callee (f := 47) rfl ?_); refine goesS (some 34) Tryd.func47 #[.agg #[.int .i64 a0_0, .slice A0_1 l0_1.length c0_1], .int .i64 (rd t447 x28_2)] ?_; (with_reducible refine (impl_isConnected.calls k2 a0_0 _ _ l0_1 (rd t447 x28_2) false _ ?side1 ?side2 A26.out (tabW HTab.out)).mono ?_); (case side1 => exact cP (Kd.C_below HR0_1.out HB.out)); (case side2 => exact HC0_1.out); rintro e w33 ⟨rfl, hb⟩; refine ⟨_, rfl, ?_⟩; have n0_ := Aside0.mk (Kd.R_below (rP HO_26.out) hb); have n1_ := Aside0.mk (blkB BK436.out hb); have n2_ := Aside0.mk (blkB BK438.out hb); have n3_ := Aside0.mk (Kd.C_below (by repeat (first | (with_reducible exact HR446_0.out) | (with_reducible refine Kd.C_alloc ?_ _) | (with_reducible refine Kd.C_drewN ?_ _) | (with_reducible refine Kd.C_drew ?_) | exact HR446_0.out)) hb); have n4_ := Aside0.mk (below_step (bW) hb); clear HO_26 BK436 BK438 HR446_0 HB; have HO_26 := n0_; have BK436 := n1_; have BK438 := n2_; have HR446_0 := n3_; have HB := n4_; clear n0_ n1_ n2_ n3_ n4_; (try clear hb); (try clear hb2); (try clear hk); (try clear hi)))
               go_ret2
               exact ⟨eW, bW⟩
             ·rw [if_neg c25] at H
              exact absurd H (by simp)
            ·rw [if_neg c24] at H
             exact absurd H (by simp)
           ·rw [if_neg c23] at H
            have c23b0 : decide (x28_2 < (t447.length : Int)) = false := decide_eq_false c23
            clear c23
            have H' := Aside0.mk H
            clear H
            go_wp2
            go_roundg k2
            case measure => have := HK1.out; have := HK2.out; omega
            case rel => exact ⟨(wrap64 (x12_1 + 1)), (eW), H', ⟨by have := HK1.out; have := HK2.out; omega⟩, ⟨(bP BK436.out)⟩, ⟨bW⟩⟩
        ·rw [if_neg c11] at H
         exact absurd H (by simp)
       ·rw [if_neg c9] at H
        exact absurd H (by simp)
      ·rw [if_neg c7] at H
       have c7b0 : (((rd_T50 l1 x12_1).f0) == 5) = false := beq_eq_false_iff_ne.mpr c7
       have c7b1 : (((rd_T50 l1 x12_1).f0) != 5) = true := bne_iff_ne.mpr c7
       have H' := Aside0.mk H
       clear H
       have p437 : 0 ≤ (x12_1 : Int) := ofD
       have q437 : x12_1 < (l1.length : Int) := ofD
       obtain ⟨ad437, e437, hx437_0, hx437_1⟩ := at_T50 HR1.out x12_1 p437 q437
       cases e437
       replace hx437_0 := (HB.out.cell (World.block_lt_of_cell? w _ hx437_0)).trans hx437_0
       replace hx437_1 := (HB.out.cell (World.block_lt_of_cell? w _ hx437_1)).trans hx437_1
       replace p437 := eq_true p437
       replace q437 := eq_true q437
       go_wp2_with (first | ((with_reducible refine gate_dst (N := 7) rfl ?_); refine boxS (N := 7) (cs := #[.int .i64 0, .int .i64 0]) (t := 50) ?_; intro gb438 hg w34 hbox hb; have n0_ := Aside0.mk (blkB BK436.out hb); have n1_ := Aside0.mk (below_step (bW) hb); have n2_ := Aside0.mk (hbox); have n3_ := geW (w := w) hg; have n4_ := geW (w := w) hg; have n5_ := Aside0.mk ((by rw [hg]; exact Nat.ne_of_lt (blk_lt (g := gb436) (o := .cells #[.int .i64 a0_0, .slice A0_1 l0_1.length c0_1] 30 (0, 0)) (bP BK436.out)) : gb436 ≠ gb438)); have n6_ := Aside0.mk ((by rw [hg]; exact Nat.ne_of_gt (blk_lt (g := gb436) (o := .cells #[.int .i64 a0_0, .slice A0_1 l0_1.length c0_1] 30 (0, 0)) (bP BK436.out)) : gb438 ≠ gb436)); clear BK436 HB; have BK436 := n0_; have HB := n1_; have BK438 := n2_; have GW438 := n3_; have GE438 := n4_; have NB436_438 := n5_; have NB438_436 := n6_; clear n0_ n1_ n2_ n3_ n4_ n5_ n6_ hb hbox hg; have hnb35 := NB438_436.out; have hnc35 := NB436_438.out; obtain ⟨hcz36_0, hcz36_1⟩ := cells2 BK438.out; obtain ⟨hfz36_0, hfz36_1⟩ := frz2 BK438.out))
       go_roundg k1
       case measure => have := HK1.out; omega
       case rel => exact ⟨(wrap64 (x12_1 + 1)), (eW), H', ⟨by have := HK1.out; omega⟩, ⟨by (with_reducible repeat (first | refine blk_drewN ?_ _ | refine blk_drew ?_ | refine blk_alloc ?_ _)); refine blk_far ?_ NB436_438.out _; (with_reducible repeat (first | refine blk_drewN ?_ _ | refine blk_drew ?_ | refine blk_alloc ?_ _)); refine blk_far ?_ NB436_438.out _; exact bP BK436.out⟩, ⟨bW⟩⟩
     ·rw [if_neg c6] at H
      exact absurd H (by simp)
    ·rw [if_neg c5] at H
     exact absurd H (by simp)
   ·rw [if_neg c4] at H
    have c4b0 : decide (x12_1 < (l1.length : Int)) = false := decide_eq_false c4
    clear c4
    simp only [Option.some.injEq, Prod.mk.injEq] at H
    obtain ⟨rfl, rfl⟩ := H
    go_wp2
    go_ret2
    exact ⟨eW, bW⟩
/-! ### impl_IsStarConnected: function 20 -/
def impl_IsStarConnected.f (k : Nat) (a0_0 : Int) (l0_1 : List Int) (l1 : List (S50)) : Option (Bool × Int) := (impl_IsExpression.f k a0_0 l0_1 l1).bind fun t453 => (if t453 = true then ((impl_starFault.f k a0_0 l0_1 l1).bind fun bt454 => (some (decide (bt454.1 < 0), 0))) else (some (false, 1)))
set_option maxHeartbeats 8000000 in
set_option maxRecDepth 100000 in
theorem impl_IsStarConnected.calls (k : Nat) (a0_0 : Int) (A0_1 : Option Addr) (c0_1 : Nat) (l0_1 : List Int) (A1 : Option Addr) (c1 : Nat) (l1 : List (S50)) (r1 : Bool) (r2 : Int) (w : World) (hr0_1 : Kd.C (Kd.int .i64) w A0_1 l0_1.length l0_1) (hc0_1 : l0_1.length ≤ c0_1) (hr1 : Kd.C k50 w A1 l1.length l1) (hc1 : l1.length ≤ c1) (h : impl_IsStarConnected.f k a0_0 l0_1 l1 = some (r1, r2)) (hTab : Tab w) :
  Calls Tryd.prog 20 #[.agg #[.int .i64 a0_0, .slice A0_1 l0_1.length c0_1], .slice A1 l1.length c1] w fun e w' => e = .returned (.tuple #[.bool r1, .int .i64 r2]) ∧ Below w.heap.size w w' := by
 have HTab := Aside0.mk hTab
 clear hTab
 have hu30 := Tryd.underlying30
 have HR0_1 := Aside0.mk hr0_1
 have HC0_1 := Aside0.mk hc0_1
 clear hr0_1 hc0_1
 have HR1 := Aside0.mk hr1
 have HC1 := Aside0.mk hc1
 clear hr1 hc1
 have HB := Aside0.mk (Below.refl w.heap.size w)
 have H : ((impl_IsExpression.f k a0_0 l0_1 l1).bind fun t453 => (if t453 = true then ((impl_starFault.f k a0_0 l0_1 l1).bind fun bt454 => (some (decide (bt454.1 < 0), 0))) else (some (false, 1)))) = some (r1, r2) := h
 clear h
 replace H := Option.bind_eq_some_iff.mp H
 obtain ⟨t453, A30, H⟩ := H
 replace H : (if t453 = true then ((impl_starFault.f k a0_0 l0_1 l1).bind fun bt454 => (some (decide (bt454.1 < 0), 0))) else (some (false, 1))) = some (r1, r2) := H
 have A3 := Aside0.mk A30
 clear A30
 by_cases c4 : t453 = true
 ·subst c4
  have H1 : ((impl_starFault.f k a0_0 l0_1 l1).bind fun bt454 => (some (decide (bt454.1 < 0), 0))) = some (r1, r2) := by rw [if_pos rfl] at H; exact H
  clear H
  have H := H1
  clear H1
  replace H := Option.bind_eq_some_iff.mp H
  obtain ⟨⟨t454, t455⟩, A50, H⟩ := H
  replace H : (some (decide (t454 < 0), 0)) = some (r1, r2) := H
  have A5 := Aside0.mk A50
  clear A50
  simp only [Option.some.injEq, Prod.mk.injEq] at H
  obtain ⟨rfl, rfl⟩ := H
  go_enter Tryd.func20, Tryd.ntmps20
  go_wp2_with (first | ((with_reducible refine gate_dst (N := 2) rfl ?_); refine boxS (N := 2) (cs := #[.int .i64 a0_0, .slice A0_1 l0_1.length c0_1]) (t := 30) ?_; intro gb452 hg w6 hbox hb; have n0_ := Aside0.mk (below_step (bW) hb); have n1_ := Aside0.mk (hbox); have n2_ := geW (w := w) hg; have n3_ := geW (w := w) hg; clear HB; have HB := n0_; have BK452 := n1_; have GW452 := n2_; have GE452 := n3_; clear n0_ n1_ n2_ n3_ hb hbox hg; obtain ⟨hcz7_0, hcz7_1⟩ := cells2 BK452.out; obtain ⟨hfz7_0, hfz7_1⟩ := frz2 BK452.out) | ((with_reducible refine gate_callee (f := 28) rfl ?_); refine goesS (some 10) Tryd.func28 #[.agg #[.int .i64 a0_0, .slice A0_1 l0_1.length c0_1], .slice A1 l1.length c1] ?_; (with_reducible refine (impl_IsExpression.calls k a0_0 _ _ l0_1 _ _ l1 true _ ?side1 ?side2 ?side3 ?side4 A3.out (tabW HTab.out)).mono ?_); (case side1 => exact cP (Kd.C_below HR0_1.out HB.out)); (case side2 => exact HC0_1.out); (case side3 => exact cP (Kd.C_below HR1.out HB.out)); (case side4 => exact HC1.out); rintro e w8 ⟨rfl, hb⟩; refine ⟨_, rfl, ?_⟩; have n0_ := Aside0.mk (blkB BK452.out hb); have n1_ := Aside0.mk (below_step (bW) hb); clear BK452 HB; have BK452 := n0_; have HB := n1_; clear n0_ n1_; (try clear hb); (try clear hb2); (try clear hk); (try clear hi); obtain ⟨hcz9_0, hcz9_1⟩ := cells2 BK452.out; obtain ⟨hfz9_0, hfz9_1⟩ := frz2 BK452.out) | ((with_reducible refine gate_callee (f := 32) rfl ?_); refine goesS (some 15) Tryd.func32 #[.agg #[.int .i64 a0_0, .slice A0_1 l0_1.length c0_1], .slice A1 l1.length c1] ?_; (with_reducible refine (impl_starFault.calls k a0_0 _ _ l0_1 _ _ l1 t454 t455 _ ?side1 ?side2 ?side3 ?side4 A5.out (tabW HTab.out)).mono ?_); (case side1 => exact cP (Kd.C_below HR0_1.out HB.out)); (case side2 => exact HC0_1.out); (case side3 => exact cP (Kd.C_below HR1.out HB.out)); (case side4 => exact HC1.out); rintro e w10 ⟨rfl, hb⟩; refine ⟨_, rfl, ?_⟩; have n0_ := Aside0.mk (blkB BK452.out hb); have n1_ := Aside0.mk (below_step (bW) hb); clear BK452 HB; have BK452 := n0_; have HB := n1_; clear n0_ n1_; (try clear hb); (try clear hb2); (try clear hk); (try clear hi)))
  go_ret2
  exact ⟨eW, bW⟩
 ·replace c4 := Bool.eq_false_iff.mpr c4
  subst c4
  have H1 : (some (false, 1)) = some (r1, r2) := by rw [if_neg (show ¬ (false = true) by decide)] at H; exact H
  clear H
  have H := H1
  clear H1
  simp only [Option.some.injEq, Prod.mk.injEq] at H
  obtain ⟨rfl, rfl⟩ := H
  go_enter Tryd.func20, Tryd.ntmps20
  go_wp2_with (first | ((with_reducible refine gate_dst (N := 2) rfl ?_); refine boxS (N := 2) (cs := #[.int .i64 a0_0, .slice A0_1 l0_1.length c0_1]) (t := 30) ?_; intro gb452 hg w11 hbox hb; have n0_ := Aside0.mk (below_step (bW) hb); have n1_ := Aside0.mk (hbox); have n2_ := geW (w := w) hg; have n3_ := geW (w := w) hg; clear HB; have HB := n0_; have BK452 := n1_; have GW452 := n2_; have GE452 := n3_; clear n0_ n1_ n2_ n3_ hb hbox hg; obtain ⟨hcz12_0, hcz12_1⟩ := cells2 BK452.out; obtain ⟨hfz12_0, hfz12_1⟩ := frz2 BK452.out) | ((with_reducible refine gate_callee (f := 28) rfl ?_); refine goesS (some 10) Tryd.func28 #[.agg #[.int .i64 a0_0, .slice A0_1 l0_1.length c0_1], .slice A1 l1.length c1] ?_; (with_reducible refine (impl_IsExpression.calls k a0_0 _ _ l0_1 _ _ l1 false _ ?side1 ?side2 ?side3 ?side4 A3.out (tabW HTab.out)).mono ?_); (case side1 => exact cP (Kd.C_below HR0_1.out HB.out)); (case side2 => exact HC0_1.out); (case side3 => exact cP (Kd.C_below HR1.out HB.out)); (case side4 => exact HC1.out); rintro e w13 ⟨rfl, hb⟩; refine ⟨_, rfl, ?_⟩; have n0_ := Aside0.mk (blkB BK452.out hb); have n1_ := Aside0.mk (below_step (bW) hb); clear BK452 HB; have BK452 := n0_; have HB := n1_; clear n0_ n1_; (try clear hb); (try clear hb2); (try clear hk); (try clear hi)))
  go_ret2
  exact ⟨eW, bW⟩
end Go.Proofs.YtcbcfkmeemenkaaDoor.P
end M0
section M1
namespace Go.Proofs.YtcbcfkmeemenkaaDoor.P
open Go.RowKit Go.Proofs.YtcbcfkmeemenkaaDoor.Sh Go.Proofs.YtcbcfkmeemenkaaDoorW.PrintWords Go.Proofs.YtcbcfkmeemenkaaDoorW.PrintLast Go.Proofs.YtcbcfkmeemenkaaDoorW.PrintMore
attribute [local go_sem] max2_int min2_int max_two min_two max_three min_three max_four min_four   -- for this text's walks alone
set_option linter.unusedVariables false
set_option linter.unusedSimpArgs false
/-! ### laws_FnExactIsStarConnected: function 4 -/
def laws_FnExactIsStarConnected.j0 : Nat → List (S52) → List (S50) → Bool → Int → List Int → Int → List Int → Option (Bool)
 | 0, _, _, _, _, _, _, _ => none
 | k + 1, x1, x9, x47, x457000, x457001, x473000, x473001 => if x47 = true then (some false) else ((laws_toAlphabet.f k x457000 x457001).bind fun bt478 => ((laws_eqAlphabet.f k x473000 x473001 bt478.1 bt478.2).bind fun t482 => (if t482 = true then ((laws_toTermS.f k x1).bind fun t483 => ((laws_eqTermS.f k x9 t483).bind fun t486 => (if t486 = true then (some true) else (some false)))) else (some false))))
def laws_FnExactIsStarConnected.f (k : Nat) (a0_0 : Int) (l0_1 : List Int) (l1 : List (S52)) : Option (Bool) := (laws_szAlphabet.f a0_0 l0_1 1048576).bind fun t457 => (if t457 < 0 then (some true) else ((laws_szTermS.f l1 t457).bind fun t458 => (if t458 < 0 then (some true) else ((laws_toAlphabet.f k a0_0 l0_1).bind fun bt459 => ((laws_toTermS.f k l1).bind fun t463 => ((spec_IsStarConnected.f k bt459.1 bt459.2 t463).bind fun bt466 => ((laws_toAlphabet.f k a0_0 l0_1).bind fun bt468 => ((laws_toTermS.f k l1).bind fun t473 => ((impl_IsStarConnected.f k bt468.1 bt468.2 t473).bind fun bt476 => (if (bt476.1 != bt466.1) = true then (laws_FnExactIsStarConnected.j0 k l1 t473 true a0_0 l0_1 bt468.1 bt468.2) else (laws_FnExactIsStarConnected.j0 k l1 t473 (bt476.2 != bt466.2) a0_0 l0_1 bt468.1 bt468.2)))))))))))
set_option maxHeartbeats 8000000 in
set_option maxRecDepth 100000 in
theorem laws_FnExactIsStarConnected.calls (k : Nat) (a0_0 : Int) (A0_1 : Option Addr) (c0_1 : Nat) (l0_1 : List Int) (A1 : Option Addr) (c1 : Nat) (l1 : List (S52)) (r : Bool) (w : World) (hr0_1 : Kd.C (Kd.int .i64) w A0_1 l0_1.length l0_1) (hc0_1 : l0_1.length ≤ c0_1) (hr1 : Kd.C k52 w A1 l1.length l1) (hc1 : l1.length ≤ c1) (h : laws_FnExactIsStarConnected.f k a0_0 l0_1 l1 = some r) (hT_ : r = true) (hTab : Tab w) :
  Calls Tryd.prog 4 #[.agg #[.int .i64 a0_0, .slice A0_1 l0_1.length c0_1], .slice A1 l1.length c1] w fun e w' => e = .returned (.bool r) ∧ Below w.heap.size w w' := by
 have HTab := Aside0.mk hTab
 clear hTab
 have HTr_ := Aside0.mk hT_
 clear hT_
 have hu24 := Tryd.underlying24
 have hu30 := Tryd.underlying30
 have HR0_1 := Aside0.mk hr0_1
 have HC0_1 := Aside0.mk hc0_1
 clear hr0_1 hc0_1
 have HR1 := Aside0.mk hr1
 have HC1 := Aside0.mk hc1
 clear hr1 hc1
 have HB := Aside0.mk (Below.refl w.heap.size w)
 have H : ((laws_szAlphabet.f a0_0 l0_1 1048576).bind fun t457 => (if t457 < 0 then (some true) else ((laws_szTermS.f l1 t457).bind fun t458 => (if t458 < 0 then (some true) else ((laws_toAlphabet.f k a0_0 l0_1).bind fun bt459 => ((laws_toTermS.f k l1).bind fun t463 => ((spec_IsStarConnected.f k bt459.1 bt459.2 t463).bind fun bt466 => ((laws_toAlphabet.f k a0_0 l0_1).bind fun bt468 => ((laws_toTermS.f k l1).bind fun t473 => ((impl_IsStarConnected.f k bt468.1 bt468.2 t473).bind fun bt476 => (if (bt476.1 != bt466.1) = true then (laws_FnExactIsStarConnected.j0 k l1 t473 true a0_0 l0_1 bt468.1 bt468.2) else (laws_FnExactIsStarConnected.j0 k l1 t473 (bt476.2 != bt466.2) a0_0 l0_1 bt468.1 bt468.2)))))))))))) = some r := h
 clear h
 replace H := Option.bind_eq_some_iff.mp H
 obtain ⟨t457, A30, H⟩ := H
 replace H : (if t457 < 0 then (some true) else ((laws_szTermS.f l1 t457).bind fun t458 => (if t458 < 0 then (some true) else ((laws_toAlphabet.f k a0_0 l0_1).bind fun bt459 => ((laws_toTermS.f k l1).bind fun t463 => ((spec_IsStarConnected.f k bt459.1 bt459.2 t463).bind fun bt466 => ((laws_toAlphabet.f k a0_0 l0_1).bind fun bt468 => ((laws_toTermS.f k l1).bind fun t473 => ((impl_IsStarConnected.f k bt468.1 bt468.2 t473).bind fun bt476 => (if (bt476.1 != bt466.1) = true then (laws_FnExactIsStarConnected.j0 k l1 t473 true a0_0 l0_1 bt468.1 bt468.2) else (laws_FnExactIsStarConnected.j0 k l1 t473 (bt476.2 != bt466.2) a0_0 l0_1 bt468.1 bt468.2))))))))))) = some r := H
 have A3 := Aside0.mk A30
 clear A30
 by_cases c4 : t457 < 0
 ·rw [if_pos c4] at H
  have c4b0 : decide (t457 < 0) = true := decide_eq_true c4
  clear c4
  obtain rfl := Option.some.inj H
  go_enter Tryd.func4, Tryd.ntmps4
  go_wp2_with (first | ((with_reducible refine gate_dst (N := 2) rfl ?_); refine boxS (N := 2) (cs := #[.int .i64 a0_0, .slice A0_1 l0_1.length c0_1]) (t := 24) ?_; intro gb456 hg w5 hbox hb; have n0_ := Aside0.mk (below_step (bW) hb); have n1_ := Aside0.mk (hbox); have n2_ := geW (w := w) hg; have n3_ := geW (w := w) hg; clear HB; have HB := n0_; have BK456 := n1_; have GW456 := n2_; have GE456 := n3_; clear n0_ n1_ n2_ n3_ hb hbox hg; obtain ⟨hcz6_0, hcz6_1⟩ := cells2 BK456.out; obtain ⟨hfz6_0, hfz6_1⟩ := frz2 BK456.out) | ((with_reducible refine gate_callee (f := 6) rfl ?_); refine goesS (some 14) Tryd.func6 #[.agg #[.int .i64 a0_0, .slice A0_1 l0_1.length c0_1], .int .i64 1048576] ?_; (with_reducible refine (laws_szAlphabet.calls a0_0 _ _ l0_1 1048576 t457 _ ?side1 ?side2 A3.out).mono ?_); (case side1 => exact cP (Kd.C_below HR0_1.out HB.out)); (case side2 => exact HC0_1.out); rintro e w7 ⟨rfl, hb⟩; refine ⟨_, rfl, ?_⟩; have n0_ := Aside0.mk (blkB BK456.out hb); have n1_ := Aside0.mk (below_step (bW) hb); clear BK456 HB; have BK456 := n0_; have HB := n1_; clear n0_ n1_; (try clear hb); (try clear hb2); (try clear hk); (try clear hi)))
  go_ret
  exact ⟨eW, bW⟩
 ·rw [if_neg c4] at H
  have c4b0 : decide (t457 < 0) = false := decide_eq_false c4
  clear c4
  replace H := Option.bind_eq_some_iff.mp H
  obtain ⟨t458, A80, H⟩ := H
  replace H : (if t458 < 0 then (some true) else ((laws_toAlphabet.f k a0_0 l0_1).bind fun bt459 => ((laws_toTermS.f k l1).bind fun t463 => ((spec_IsStarConnected.f k bt459.1 bt459.2 t463).bind fun bt466 => ((laws_toAlphabet.f k a0_0 l0_1).bind fun bt468 => ((laws_toTermS.f k l1).bind fun t473 => ((impl_IsStarConnected.f k bt468.1 bt468.2 t473).bind fun bt476 => (if (bt476.1 != bt466.1) = true then (laws_FnExactIsStarConnected.j0 k l1 t473 true a0_0 l0_1 bt468.1 bt468.2) else (laws_FnExactIsStarConnected.j0 k l1 t473 (bt476.2 != bt466.2) a0_0 l0_1 bt468.1 bt468.2))))))))) = some r := H
  have A8 := Aside0.mk A80
  clear A80
  by_cases c9 : t458 < 0
  ·rw [if_pos c9] at H
   have c9b0 : decide (t458 < 0) = true := decide_eq_true c9
   clear c9
   obtain rfl := Option.some.inj H
   go_enter Tryd.func4, Tryd.ntmps4
   go_wp2_with (first | ((with_reducible refine gate_dst (N := 2) rfl ?_); refine boxS (N := 2) (cs := #[.int .i64 a0_0, .slice A0_1 l0_1.length c0_1]) (t := 24) ?_; intro gb456 hg w10 hbox hb; have n0_ := Aside0.mk (below_step (bW) hb); have n1_ := Aside0.mk (hbox); have n2_ := geW (w := w) hg; have n3_ := geW (w := w) hg; clear HB; have HB := n0_; have BK456 := n1_; have GW456 := n2_; have GE456 := n3_; clear n0_ n1_ n2_ n3_ hb hbox hg; obtain ⟨hcz11_0, hcz11_1⟩ := cells2 BK456.out; obtain ⟨hfz11_0, hfz11_1⟩ := frz2 BK456.out) | ((with_reducible refine gate_callee (f := 6) rfl ?_); refine goesS (some 14) Tryd.func6 #[.agg #[.int .i64 a0_0, .slice A0_1 l0_1.length c0_1], .int .i64 1048576] ?_; (with_reducible refine (laws_szAlphabet.calls a0_0 _ _ l0_1 1048576 t457 _ ?side1 ?side2 A3.out).mono ?_); (case side1 => exact cP (Kd.C_below HR0_1.out HB.out)); (case side2 => exact HC0_1.out); rintro e w12 ⟨rfl, hb⟩; refine ⟨_, rfl, ?_⟩; have n0_ := Aside0.mk (blkB BK456.out hb); have n1_ := Aside0.mk (below_step (bW) hb); clear BK456 HB; have BK456 := n0_; have HB := n1_; clear n0_ n1_; (try clear hb); (try clear hb2); (try clear hk); (try clear hi)) | ((with_reducible refine gate_callee (f := 7) rfl ?_); refine goesS (some 19) Tryd.func7 #[.slice A1 l1.length c1, .int .i64 t457] ?_; (with_reducible refine (laws_szTermS.calls _ _ l1 t457 t458 _ ?side1 ?side2 A8.out).mono ?_); (case side1 => exact cP (Kd.C_below HR1.out HB.out)); (case side2 => exact HC1.out); rintro e w' ⟨rfl, ⟨nd, rfl⟩⟩; refine ⟨_, rfl, ?_⟩))
   go_ret
   exact ⟨eW, bW⟩
  ·rw [if_neg c9] at H
   have c9b0 : decide (t458 < 0) = false := decide_eq_false c9
   clear c9
   replace H := Option.bind_eq_some_iff.mp H
   obtain ⟨⟨t459, t460⟩, A130, H⟩ := H
   replace H : ((laws_toTermS.f k l1).bind fun t463 => ((spec_IsStarConnected.f k t459 t460 t463).bind fun bt466 => ((laws_toAlphabet.f k a0_0 l0_1).bind fun bt468 => ((laws_toTermS.f k l1).bind fun t473 => ((impl_IsStarConnected.f k bt468.1 bt468.2 t473).bind fun bt476 => (if (bt476.1 != bt466.1) = true then (laws_FnExactIsStarConnected.j0 k l1 t473 true a0_0 l0_1 bt468.1 bt468.2) else (laws_FnExactIsStarConnected.j0 k l1 t473 (bt476.2 != bt466.2) a0_0 l0_1 bt468.1 bt468.2))))))) = some r := H
   have A13 := Aside0.mk A130
   clear A130
   replace H := Option.bind_eq_some_iff.mp H
   obtain ⟨t463, A140, H⟩ := H
   replace H : ((spec_IsStarConnected.f k t459 t460 t463).bind fun bt466 => ((laws_toAlphabet.f k a0_0 l0_1).bind fun bt468 => ((laws_toTermS.f k l1).bind fun t473 => ((impl_IsStarConnected.f k bt468.1 bt468.2 t473).bind fun bt476 => (if (bt476.1 != bt466.1) = true then (laws_FnExactIsStarConnected.j0 k l1 t473 true a0_0 l0_1 bt468.1 bt468.2) else (laws_FnExactIsStarConnected.j0 k l1 t473 (bt476.2 != bt466.2) a0_0 l0_1 bt468.1 bt468.2)))))) = some r := H
   have A14 := Aside0.mk A140
   clear A140
   replace H := Option.bind_eq_some_iff.mp H
   obtain ⟨⟨t466, t467⟩, A150, H⟩ := H
   replace H : ((laws_toAlphabet.f k a0_0 l0_1).bind fun bt468 => ((laws_toTermS.f k l1).bind fun t473 => ((impl_IsStarConnected.f k bt468.1 bt468.2 t473).bind fun bt476 => (if (bt476.1 != t466) = true then (laws_FnExactIsStarConnected.j0 k l1 t473 true a0_0 l0_1 bt468.1 bt468.2) else (laws_FnExactIsStarConnected.j0 k l1 t473 (bt476.2 != t467) a0_0 l0_1 bt468.1 bt468.2))))) = some r := H
   have A15 := Aside0.mk A150
   clear A150
   replace H := Option.bind_eq_some_iff.mp H
   obtain ⟨⟨t468, t469⟩, A160, H⟩ := H
   replace H : ((laws_toTermS.f k l1).bind fun t473 => ((impl_IsStarConnected.f k t468 t469 t473).bind fun bt476 => (if (bt476.1 != t466) = true then (laws_FnExactIsStarConnected.j0 k l1 t473 true a0_0 l0_1 t468 t469) else (laws_FnExactIsStarConnected.j0 k l1 t473 (bt476.2 != t467) a0_0 l0_1 t468 t469)))) = some r := H
   have A16 := Aside0.mk A160
   clear A160
   replace H := Option.bind_eq_some_iff.mp H
   obtain ⟨t473, A170, H⟩ := H
   replace H : ((impl_IsStarConnected.f k t468 t469 t473).bind fun bt476 => (if (bt476.1 != t466) = true then (laws_FnExactIsStarConnected.j0 k l1 t473 true a0_0 l0_1 t468 t469) else (laws_FnExactIsStarConnected.j0 k l1 t473 (bt476.2 != t467) a0_0 l0_1 t468 t469))) = some r := H
   have A17 := Aside0.mk A170
   clear A170
   replace H := Option.bind_eq_some_iff.mp H
   obtain ⟨⟨t476, t477⟩, A180, H⟩ := H
   replace H : (if (t476 != t466) = true then (laws_FnExactIsStarConnected.j0 k l1 t473 true a0_0 l0_1 t468 t469) else (laws_FnExactIsStarConnected.j0 k l1 t473 (t477 != t467) a0_0 l0_1 t468 t469)) = some r := H
   have A18 := Aside0.mk A180
   clear A180
   have HC19 := Aside0.mk H
   clear H
   go_enter Tryd.func4, Tryd.ntmps4
   go_upto_region 12 with (first | ((with_reducible refine gate_dst (N := 2) rfl ?_); refine boxS (N := 2) (cs := #[.int .i64 a0_0, .slice A0_1 l0_1.length c0_1]) (t := 24) ?_; intro gb456 hg w20 hbox hb; have n0_ := Aside0.mk (below_step (bW) hb); have n1_ := Aside0.mk (hbox); have n2_ := geW (w := w) hg; have n3_ := geW (w := w) hg; clear HB; have HB := n0_; have BK456 := n1_; have GW456 := n2_; have GE456 := n3_; clear n0_ n1_ n2_ n3_ hb hbox hg; obtain ⟨hcz21_0, hcz21_1⟩ := cells2 BK456.out; obtain ⟨hfz21_0, hfz21_1⟩ := frz2 BK456.out) | ((with_reducible refine gate_callee (f := 6) rfl ?_); refine goesS (some 14) Tryd.func6 #[.agg #[.int .i64 a0_0, .slice A0_1 l0_1.length c0_1], .int .i64 1048576] ?_; (with_reducible refine (laws_szAlphabet.calls a0_0 _ _ l0_1 1048576 t457 _ ?side1 ?side2 A3.out).mono ?_); (case side1 => exact cP (Kd.C_below HR0_1.out HB.out)); (case side2 => exact HC0_1.out); rintro e w22 ⟨rfl, hb⟩; refine ⟨_, rfl, ?_⟩; have n0_ := Aside0.mk (blkB BK456.out hb); have n1_ := Aside0.mk (below_step (bW) hb); clear BK456 HB; have BK456 := n0_; have HB := n1_; clear n0_ n1_; (try clear hb); (try clear hb2); (try clear hk); (try clear hi)) | ((with_reducible refine gate_callee (f := 7) rfl ?_); refine goesS (some 19) Tryd.func7 #[.slice A1 l1.length c1, .int .i64 t457] ?_; (with_reducible refine (laws_szTermS.calls _ _ l1 t457 t458 _ ?side1 ?side2 A8.out).mono ?_); (case side1 => exact cP (Kd.C_below HR1.out HB.out)); (case side2 => exact HC1.out); rintro e w' ⟨rfl, ⟨nd, rfl⟩⟩; refine ⟨_, rfl, ?_⟩; (try ((repeat rw [World.drewN_drewN w22]); (first | generalize hq_ : World.drewN w22 _ = w22 | (rw [drewN_self w22]; generalize hq_ : World.drewN w22 _ = w22)); have n0_ : Aside0 (w22.heap[gb456]? = some (.cells #[.int .i64 a0_0, .slice A0_1 l0_1.length c0_1] 24 (0, 0))) := ⟨by rw [← hq_]; exact (bP BK456.out)⟩; have n1_ : Aside0 (Below w.heap.size w w22) := ⟨by rw [← hq_]; exact (bW)⟩; clear BK456 HB hq_; have BK456 := n0_; have HB := n1_; clear n0_ n1_)); obtain ⟨hcz23_0, hcz23_1⟩ := cells2 BK456.out; obtain ⟨hfz23_0, hfz23_1⟩ := frz2 BK456.out) | ((with_reducible refine gate_callee (f := 9) rfl ?_); refine goesS (some 24) Tryd.func9 #[.agg #[.int .i64 a0_0, .slice A0_1 l0_1.length c0_1]] ?_; (with_reducible refine (laws_toAlphabet.calls k a0_0 _ _ l0_1 t459 t460 _ ?side1 ?side2 A13.out).mono ?_); (case side1 => exact cP (Kd.C_below HR0_1.out HB.out)); (case side2 => exact HC0_1.out); rintro e w24 ⟨v461, rfl, ho0, hb⟩; refine ⟨_, rfl, ?_⟩; have n0_ := Aside0.mk (Kd.R_lower ho0 (below_size (bW))); have n1_ := Aside0.mk (blkB BK456.out hb); have n2_ := Aside0.mk (below_step (bW) hb); clear BK456 HB; have HO462 := n0_; have BK456 := n1_; have HB := n2_; clear n0_ n1_ n2_; (try clear hb); (try clear hb2); (try clear hk); (try clear hi); (try clear ho0)) | ((with_reducible refine gate_callee (f := 10) rfl ?_); refine goesS (some 26) Tryd.func10 #[.slice A1 l1.length c1] ?_; (with_reducible refine (laws_toTermS.calls k _ _ l1 t463 _ ?side1 ?side2 A14.out).mono ?_); (case side1 => exact cP (Kd.C_below HR1.out HB.out)); (case side2 => exact HC1.out); rintro e w25 ⟨v464, rfl, ho0, hb⟩; refine ⟨_, rfl, ?_⟩; have n0_ := Aside0.mk (Kd.R_below (rP HO462.out) hb); have n1_ := Aside0.mk (Kd.R_lower ho0 (below_size (bW))); have n2_ := Aside0.mk (blkB BK456.out hb); have n3_ := Aside0.mk (below_step (bW) hb); clear HO462 BK456 HB; have HO462 := n0_; have HO465 := n1_; have BK456 := n2_; have HB := n3_; clear n0_ n1_ n2_ n3_; (try clear hb); (try clear hb2); (try clear hk); (try clear hi); (try clear ho0); obtain ⟨Ao26, co26, eo26⟩ := Kd.R_slice HO462.out; subst eo26; obtain ⟨Ao27, co27, eo27⟩ := Kd.R_slice HO465.out; subst eo27) | ((with_reducible refine gate_callee (f := 19) rfl ?_); refine goesS (some 27) Tryd.func19 #[.agg #[.int .i64 t459, .slice Ao26 t460.length co26], .slice Ao27 t463.length co27] ?_; (with_reducible refine (spec_IsStarConnected.calls k t459 _ _ t460 _ _ t463 t466 t467 _ ?side1 ?side2 ?side3 ?side4 A15.out).mono ?_); (case side1 => exact cP ((Kd.R_reads' HO462.out).2.2)); (case side2 => exact (Kd.R_reads' HO462.out).2.1); (case side3 => exact cP ((Kd.R_reads' HO465.out).2.2)); (case side4 => exact (Kd.R_reads' HO465.out).2.1); rintro e w28 ⟨rfl, hb⟩; refine ⟨_, rfl, ?_⟩; have n0_ := Aside0.mk (Kd.R_below (rP HO462.out) hb); have n1_ := Aside0.mk (Kd.R_below (rP HO465.out) hb); have n2_ := Aside0.mk (blkB BK456.out hb); have n3_ := Aside0.mk (below_step (bW) hb); clear HO462 HO465 BK456 HB; have HO462 := n0_; have HO465 := n1_; have BK456 := n2_; have HB := n3_; clear n0_ n1_ n2_ n3_; (try clear hb); (try clear hb2); (try clear hk); (try clear hi); obtain ⟨hcz29_0, hcz29_1⟩ := cells2 BK456.out; obtain ⟨hfz29_0, hfz29_1⟩ := frz2 BK456.out) | ((with_reducible refine gate_callee (f := 9) rfl ?_); refine goesS (some 31) Tryd.func9 #[.agg #[.int .i64 a0_0, .slice A0_1 l0_1.length c0_1]] ?_; (with_reducible refine (laws_toAlphabet.calls k a0_0 _ _ l0_1 t468 t469 _ ?side1 ?side2 A16.out).mono ?_); (case side1 => exact cP (Kd.C_below HR0_1.out HB.out)); (case side2 => exact HC0_1.out); rintro e w30 ⟨v470, rfl, ho0, hb⟩; refine ⟨_, rfl, ?_⟩; have n0_ := Aside0.mk (Kd.R_elder' (rP HO462.out) (Kd.R_base ho0) hb); have n1_ := Aside0.mk (Kd.R_below (rP HO465.out) hb); have n2_ := Aside0.mk (Kd.R_lower (Kd.R_new' ho0 (Kd.R_lt (rP HO462.out))) (below_size (bW))); have n3_ := Aside0.mk (blkB BK456.out hb); have n4_ := Aside0.mk (below_step (bW) hb); clear HO462 HO465 BK456 HB; have HO462 := n0_; have HO465 := n1_; have HO471 := n2_; have BK456 := n3_; have HB := n4_; clear n0_ n1_ n2_ n3_ n4_; (try clear hb); (try clear hb2); (try clear hk); (try clear hi); (try clear ho0)) | ((with_reducible refine gate_dst (N := 8) rfl ?_); refine boxS (N := 8) (cs := #[.int .i64 0, .slice none 0 0]) (t := 30) ?_; intro gb472 hg w31 hbox hb; have n0_ := Aside0.mk (Kd.R_below (rP HO462.out) hb); have n1_ := Aside0.mk (Kd.R_below (rP HO465.out) hb); have n2_ := Aside0.mk (Kd.R_below (rP HO471.out) hb); have n3_ := Aside0.mk (blkB BK456.out hb); have n4_ := Aside0.mk (below_step (bW) hb); have n5_ := Aside0.mk (hbox); have n6_ := geW (w := w) hg; have n7_ := geW (w := w) hg; have n8_ := Aside0.mk ((by rw [hg]; exact Nat.ne_of_lt (blk_lt (g := gb456) (o := .cells #[.int .i64 a0_0, .slice A0_1 l0_1.length c0_1] 24 (0, 0)) (bP BK456.out)) : gb456 ≠ gb472)); have n9_ := Aside0.mk ((by rw [hg]; exact Nat.ne_of_gt (blk_lt (g := gb456) (o := .cells #[.int .i64 a0_0, .slice A0_1 l0_1.length c0_1] 24 (0, 0)) (bP BK456.out)) : gb472 ≠ gb456)); clear HO462 HO465 HO471 BK456 HB; have HO462 := n0_; have HO465 := n1_; have HO471 := n2_; have BK456 := n3_; have HB := n4_; have BK472 := n5_; have GW472 := n6_; have GE472 := n7_; have NB456_472 := n8_; have NB472_456 := n9_; clear n0_ n1_ n2_ n3_ n4_ n5_ n6_ n7_ n8_ n9_ hb hbox hg; have hnb32 := NB472_456.out; have hnc32 := NB456_472.out; obtain ⟨hcz33_0, hcz33_1⟩ := cells2 BK472.out; obtain ⟨hfz33_0, hfz33_1⟩ := frz2 BK472.out; obtain ⟨Ao34, co34, eo34⟩ := Kd.R_slice HO471.out; subst eo34) | ((with_reducible refine gate_callee (f := 10) rfl ?_); refine goesS (some 33) Tryd.func10 #[.slice A1 l1.length c1] ?_; (with_reducible refine (laws_toTermS.calls k _ _ l1 t473 _ ?side1 ?side2 A17.out).mono ?_); (case side1 => exact Kd.C_below HR1.out (bW)); (case side2 => exact HC1.out); rintro e w35 ⟨v474, rfl, ho0, hb⟩; refine ⟨_, rfl, ?_⟩; have n0_ := Aside0.mk (Kd.R_below (by (with_reducible repeat (first | apply Kd.R_alloc | apply Kd.R_drewN | apply Kd.R_drew)); exact (Kd.R_mono (Kd.R_far (p := ⟨gb472, 1, none⟩) (Kd.R_far (p := ⟨gb472, 0, none⟩) (Kd.R_types HO462.out BK472.out (by decide)) (fun _ hk => hk.2) (.int .i64 t468)) (fun _ hk => hk.2) (.slice Ao34 t469.length co34)) (fun _ h_ => h_.1))) hb); have n1_ := Aside0.mk (Kd.R_elder' (by (with_reducible repeat (first | apply Kd.R_alloc | apply Kd.R_drewN | apply Kd.R_drew)); exact (Kd.R_mono (Kd.R_far (p := ⟨gb472, 1, none⟩) (Kd.R_far (p := ⟨gb472, 0, none⟩) (Kd.R_types HO465.out BK472.out (by decide)) (fun _ hk => hk.2) (.int .i64 t468)) (fun _ hk => hk.2) (.slice Ao34 t469.length co34)) (fun _ h_ => h_.1))) (Kd.R_base ho0) hb); have n2_ := Aside0.mk (Kd.R_below (by (with_reducible repeat (first | apply Kd.R_alloc | apply Kd.R_drewN | apply Kd.R_drew)); exact (Kd.R_mono (Kd.R_far (p := ⟨gb472, 1, none⟩) (Kd.R_far (p := ⟨gb472, 0, none⟩) (Kd.R_types HO471.out BK472.out (by decide)) (fun _ hk => hk.2) (.int .i64 t468)) (fun _ hk => hk.2) (.slice Ao34 t469.length co34)) (fun _ h_ => h_.1))) hb); have n3_ := Aside0.mk (Kd.R_lower (Kd.R_new' ho0 (Kd.R_lt (by (with_reducible repeat (first | apply Kd.R_alloc | apply Kd.R_drewN | apply Kd.R_drew)); exact (Kd.R_mono (Kd.R_far (p := ⟨gb472, 1, none⟩) (Kd.R_far (p := ⟨gb472, 0, none⟩) (Kd.R_types HO465.out BK472.out (by decide)) (fun _ hk => hk.2) (.int .i64 t468)) (fun _ hk => hk.2) (.slice Ao34 t469.length co34)) (fun _ h_ => h_.1))))) (below_size (bW))); have n4_ := Aside0.mk (blk_below (g := gb456) (o := .cells #[.int .i64 a0_0, .slice A0_1 l0_1.length c0_1] 24 (0, 0)) (by (with_reducible repeat (first | refine blk_drewN ?_ _ | refine blk_drew ?_ | refine blk_alloc ?_ _)); refine blk_far ?_ NB456_472.out _; (with_reducible repeat (first | refine blk_drewN ?_ _ | refine blk_drew ?_ | refine blk_alloc ?_ _)); refine blk_far ?_ NB456_472.out _; exact bP BK456.out) hb); have n5_ := Aside0.mk (blk_below (g := gb472) (o := .cells #[.int .i64 t468, .slice Ao34 t469.length co34] 30 (0, 0)) (by (with_reducible repeat (first | refine blk_drewN ?_ _ | refine blk_drew ?_ | refine blk_alloc ?_ _)); refine blk_put (cs := #[.int .i64 t468, .slice none 0 0]) ?_ 1 _ rfl; (with_reducible repeat (first | refine blk_drewN ?_ _ | refine blk_drew ?_ | refine blk_alloc ?_ _)); refine blk_put (cs := #[.int .i64 0, .slice none 0 0]) ?_ 0 _ rfl; exact bP BK472.out) hb); have n6_ := Aside0.mk (below_step (bW) hb); clear HO462 HO465 HO471 BK456 BK472 HB; have HO462 := n0_; have HO465 := n1_; have HO471 := n2_; have HO475 := n3_; have BK456 := n4_; have BK472 := n5_; have HB := n6_; clear n0_ n1_ n2_ n3_ n4_ n5_ n6_; (try clear hb); (try clear hb2); (try clear hk); (try clear hi); (try clear ho0); obtain ⟨hcz36_0, hcz36_1⟩ := cells2 BK472.out; obtain ⟨hfz36_0, hfz36_1⟩ := frz2 BK472.out; obtain ⟨Ao37, co37, eo37⟩ := Kd.R_slice HO475.out; subst eo37) | ((with_reducible refine gate_callee (f := 20) rfl ?_); refine goesS (some 37) Tryd.func20 #[.agg #[.int .i64 t468, .slice Ao34 t469.length co34], .slice Ao37 t473.length co37] ?_; (with_reducible refine (impl_IsStarConnected.calls k t468 _ _ t469 _ _ t473 t476 t477 _ ?side1 ?side2 ?side3 ?side4 A18.out (tabW HTab.out)).mono ?_); (case side1 => exact cP ((Kd.R_reads' HO471.out).2.2)); (case side2 => exact (Kd.R_reads' HO471.out).2.1); (case side3 => exact cP ((Kd.R_reads' HO475.out).2.2)); (case side4 => exact (Kd.R_reads' HO475.out).2.1); rintro e w38 ⟨rfl, hb⟩; refine ⟨_, rfl, ?_⟩; have n0_ := Aside0.mk (Kd.R_below (rP HO462.out) hb); have n1_ := Aside0.mk (Kd.R_below (rP HO465.out) hb); have n2_ := Aside0.mk (Kd.R_below (rP HO471.out) hb); have n3_ := Aside0.mk (Kd.R_below (rP HO475.out) hb); have n4_ := Aside0.mk (blkB BK456.out hb); have n5_ := Aside0.mk (blkB BK472.out hb); have n6_ := Aside0.mk (below_step (bW) hb); clear HO462 HO465 HO471 HO475 BK456 BK472 HB; have HO462 := n0_; have HO465 := n1_; have HO471 := n2_; have HO475 := n3_; have BK456 := n4_; have BK472 := n5_; have HB := n6_; clear n0_ n1_ n2_ n3_ n4_ n5_ n6_; (try clear hb); (try clear hb2); (try clear hk); (try clear hi)))
   (try simp only [Act.put, List.setIfInBounds_toArray, List.set_cons_zero, List.set_cons_succ])
   go_cut [47] (fun v47 wc => ∃ (kq : Nat) (x47_18 : Bool), v47 = .bool x47_18 ∧ Aside0 (laws_FnExactIsStarConnected.j0 kq l1 t473 x47_18 a0_0 l0_1 t468 t469 = some r) ∧ Aside0 (kq ≤ k) ∧ Aside0 (Kd.R k50 50 wc w.heap.size (fun _ => True) (.slice Ao37 t473.length co37) t473) ∧ Aside0 (Kd.R (Kd.int .i64) 2 wc w.heap.size (fun _ => True) (.slice Ao34 t469.length co34) t469) ∧ Aside0 (wc.heap[gb456]? = some (.cells #[.int .i64 a0_0, (.slice A0_1 l0_1.length c0_1)] 24 (0, 0))) ∧ Aside0 (wc.heap[gb472]? = some (.cells #[.int .i64 t468, (.slice Ao34 t469.length co34)] 30 (0, 0))) ∧ Aside0 (Below w.heap.size w wc))
   case first =>
    have H := HC19.out
    clear HC19
    by_cases c39 : (t476 != t466) = true
    ·rw [if_pos c39] at H
     have c39b0 : (t476 != t466) = true := c39
     (try (have c39b1 : decide (t476 = t466) = false := by simpa using c39))
     (try (have c39b2 : (t476 == t466) = false := by simpa using c39))
     (try (have c39b3 : ¬ (t476 = t466) := by simpa using c39))
     clear c39
     (first | rw [c39b0] | (simp only [i64_w, i32_w]; rw [c39b0]) | skip)
     have H' := Aside0.mk H
     clear H
     go_wp2
     go_meet
     case rel => exact ⟨_, (true), (eW), H', ⟨by first | omega | exact Nat.le_refl _⟩, ⟨by (with_reducible repeat (first | apply Kd.R_alloc | apply Kd.R_drewN | apply Kd.R_drew)); exact Kd.R_mono HO475.out (fun _ hk => trivial)⟩, ⟨by (with_reducible repeat (first | apply Kd.R_alloc | apply Kd.R_drewN | apply Kd.R_drew)); exact Kd.R_mono HO471.out (fun _ hk => trivial)⟩, ⟨(bP BK456.out)⟩, ⟨(bP BK472.out)⟩, ⟨bW⟩⟩
    ·rw [if_neg c39] at H
     have c39b0 : (t476 != t466) = false := by simpa using c39
     (try (have c39b1 : decide (t476 = t466) = true := by simpa using c39))
     (try (have c39b2 : (t476 == t466) = true := by simpa using c39))
     clear c39
     (first | rw [c39b0] | (simp only [i64_w, i32_w]; rw [c39b0]) | skip)
     have H' := Aside0.mk H
     clear H
     go_wp2
     go_meet
     case rel => exact ⟨_, ((t477 != t467)), (eW), H', ⟨by first | omega | exact Nat.le_refl _⟩, ⟨by (with_reducible repeat (first | apply Kd.R_alloc | apply Kd.R_drewN | apply Kd.R_drew)); exact Kd.R_mono HO475.out (fun _ hk => trivial)⟩, ⟨by (with_reducible repeat (first | apply Kd.R_alloc | apply Kd.R_drewN | apply Kd.R_drew)); exact Kd.R_mono HO471.out (fun _ hk => trivial)⟩, ⟨(bP BK456.out)⟩, ⟨(bP BK472.out)⟩, ⟨bW⟩⟩
   case rest =>
    clear HC19
    try clear c1
    try clear c2
    try clear p2
    try clear c3
    try clear c4
    try clear c4b0
    try clear c6
    try clear c7
    try clear c9
    try clear c9b0
    try clear c10
    try clear c19
    try clear c20
    try clear c32
    try clear c39
    try clear c39b0
    try clear c39b1
    try clear c39b2
    try clear hcz11_0
    try clear hcz11_1
    try clear hcz21_0
    try clear hcz21_1
    try clear hcz23_0
    try clear hcz23_1
    try clear hcz29_0
    try clear hcz29_1
    try clear hcz33_0
    try clear hcz33_1
    try clear hcz36_0
    try clear hcz36_1
    try clear hcz6_0
    try clear hcz6_1
    try clear hfz11_0
    try clear hfz11_1
    try clear hfz21_0
    try clear hfz21_1
    try clear hfz23_0
    try clear hfz23_1
    try clear hfz29_0
    try clear hfz29_1
    try clear hfz33_0
    try clear hfz33_1
    try clear hfz36_0
    try clear hfz36_1
    try clear hfz6_0
    try clear hfz6_1
    obtain ⟨kq, x47_18, rfl, HA, HJ18, HO_9, HO_473001, BK456, BK472, HB⟩ := hcut
    cases kq with
    | zero => exact absurd HA.out (by simp [laws_FnExactIsStarConnected.j0])
    | succ kj18 =>
     have H := HA.out
     clear HA
     simp only [laws_FnExactIsStarConnected.j0] at H
     by_cases c40 : x47_18 = true
     ·subst c40
      have H1 : (some false) = some r := by rw [if_pos rfl] at H; exact H
      clear H
      have H := H1
      clear H1
      exact absurd (Option.some.inj H) (by rw [HTr_.out]; decide)
     ·replace c40 := Bool.eq_false_iff.mpr c40
      subst c40
      have H1 : ((laws_toAlphabet.f kj18 a0_0 l0_1).bind fun bt478 => ((laws_eqAlphabet.f kj18 t468 t469 bt478.1 bt478.2).bind fun t482 => (if t482 = true then ((laws_toTermS.f kj18 l1).bind fun t483 => ((laws_eqTermS.f kj18 t473 t483).bind fun t486 => (if t486 = true then (some true) else (some false)))) else (some false)))) = some r := by rw [if_neg (show ¬ (false = true) by decide)] at H; exact H
      clear H
      have H := H1
      clear H1
      replace H := Option.bind_eq_some_iff.mp H
      obtain ⟨⟨t478, t479⟩, A410, H⟩ := H
      replace H : ((laws_eqAlphabet.f kj18 t468 t469 t478 t479).bind fun t482 => (if t482 = true then ((laws_toTermS.f kj18 l1).bind fun t483 => ((laws_eqTermS.f kj18 t473 t483).bind fun t486 => (if t486 = true then (some true) else (some false)))) else (some false))) = some r := H
      have A41 := Aside0.mk A410
      clear A410
      replace H := Option.bind_eq_some_iff.mp H
      obtain ⟨t482, A420, H⟩ := H
      replace H : (if t482 = true then ((laws_toTermS.f kj18 l1).bind fun t483 => ((laws_eqTermS.f kj18 t473 t483).bind fun t486 => (if t486 = true then (some true) else (some false)))) else (some false)) = some r := H
      have A42 := Aside0.mk A420
      clear A420
      by_cases c43 : t482 = true
      ·subst c43
       have H1 : ((laws_toTermS.f kj18 l1).bind fun t483 => ((laws_eqTermS.f kj18 t473 t483).bind fun t486 => (if t486 = true then (some true) else (some false)))) = some r := by rw [if_pos rfl] at H; exact H
       clear H
       have H := H1
       clear H1
       replace H := Option.bind_eq_some_iff.mp H
       obtain ⟨t483, A440, H⟩ := H
       replace H : ((laws_eqTermS.f kj18 t473 t483).bind fun t486 => (if t486 = true then (some true) else (some false))) = some r := H
       have A44 := Aside0.mk A440
       clear A440
       replace H := Option.bind_eq_some_iff.mp H
       obtain ⟨t486, A450, H⟩ := H
       replace H : (if t486 = true then (some true) else (some false)) = some r := H
       have A45 := Aside0.mk A450
       clear A450
       by_cases c46 : t486 = true
       ·subst c46
        have H1 : (some true) = some r := by rw [if_pos rfl] at H; exact H
        clear H
        have H := H1
        clear H1
        obtain rfl := Option.some.inj H
        try go_wp2
        have n0_ := Aside0.mk (Kd.R_drew HO_9.out)
        have n1_ := Aside0.mk (Kd.R_drew HO_473001.out)
        have n2_ := Aside0.mk (blk_drew BK456.out)
        have n3_ := Aside0.mk (blk_drew BK472.out)
        have n4_ := Aside0.mk (below_drew1 HB.out)
        clear HO_9 HO_473001 BK456 BK472 HB; have HO_9 := n0_; have HO_473001 := n1_; have BK456 := n2_; have BK472 := n3_; have HB := n4_; clear n0_ n1_ n2_ n3_ n4_
        refine start_ (n := 5) (S := fun w' => w'.cell? ⟨gb472, 0, none⟩ = some (.int .i64 t468) ∧ w'.cell? ⟨gb472, 1, none⟩ = some (.slice Ao34 t469.length co34) ∧ w'.cell? ⟨gb456, 0, none⟩ = some (.int .i64 a0_0) ∧ w'.cell? ⟨gb456, 1, none⟩ = some (.slice A0_1 l0_1.length c0_1)) (ds := []) #[false, false, false, false, false] (by kernel_rfl) rfl rfl ⟨(blk_cell BK472.out 0).trans rfl, (blk_cell BK472.out 1).trans rfl, (blk_cell BK456.out 0).trans rfl, (blk_cell BK456.out 1).trans rfl⟩ (fun hHeld => ?_)
        generalize wc.drew = w47 at HO_9 HO_473001 BK456 BK472 HB hHeld ⊢
        refine takeS (i := 0) (N := some 48) (by kernel_rfl) hHeld ?_
        refine takeS (i := 1) (N := some 49) (by kernel_rfl) hHeld ?_
        refine one_ (i := 2) (N := some 50) #[true, true, true, false, false] rfl rfl (by kernel_rfl) (by decide) (fun K hK => ?_)
        refine goes_ Tryd.func9 (by kernel_rfl) rfl #[.agg #[.int .i64 a0_0, .slice A0_1 l0_1.length c0_1]] (by rfl) rfl rfl (by (try simp only [List.map_toArray, List.map_cons, List.map_nil]); first | done | rfl | (simp only [List.length_drop, List.length_take]; rfl)) ?_
        with_reducible refine (laws_toAlphabet.calls kj18 a0_0 _ _ l0_1 t478 t479 _ ?side1 ?side2 A41.out).mono ?_
        (case side1 => exact cP (Kd.C_below HR0_1.out HB.out))
        (case side2 => exact HC0_1.out)
        rintro e w48 ⟨v480, rfl, ho0, hb⟩
        refine ⟨_, rfl, ?_⟩
        have n0_ := Aside0.mk (Kd.R_below (rP HO_9.out) hb)
        have n1_ := Aside0.mk (Kd.R_elder' (rP HO_473001.out) (Kd.R_base ho0) hb)
        have n2_ := Aside0.mk (Kd.R_lower (Kd.R_new' ho0 (Kd.R_lt (rP HO_473001.out))) (below_size (bW)))
        have n3_ := Aside0.mk (blkB BK456.out hb)
        have n4_ := Aside0.mk (blkB BK472.out hb)
        have n5_ := Aside0.mk (below_step (bW) hb)
        clear HO_9 HO_473001 BK456 BK472 HB; have HO_9 := n0_; have HO_473001 := n1_; have HO481 := n2_; have BK456 := n3_; have BK472 := n4_; have HB := n5_; clear n0_ n1_ n2_ n3_ n4_ n5_
        (try clear hb)
        (try clear hb2)
        (try clear hk)
        (try clear hi)
        (try clear ho0)
        obtain ⟨Ao49, co49, eo49⟩ := Kd.R_slice HO481.out
        (first | subst eo49 | (injection eo49 with f1_ f2_ f3_; have f4_ := f1_.symm; have f5_ := f3_.symm; clear f1_ f2_ f3_; subst f4_; subst f5_))
        refine hK.out _ _ ⟨(blk_cell BK472.out 0).trans rfl, (blk_cell BK472.out 1).trans rfl, (blk_cell BK456.out 0).trans rfl, (blk_cell BK456.out 1).trans rfl⟩ (fun hHeld => ?_)
        clear hK K
        refine norm_ (a' := ?_) ?_ ?_
        rotate_left
        ·show Act.put _ (some 50) _ = _
         simp only [Act.put, List.setIfInBounds_toArray, List.set_cons_zero, List.set_cons_succ, i64_w, i32_w]
         rfl
        refine one_ (i := 3) (N := some 51) #[true, true, true, true, false] rfl rfl (by kernel_rfl) (by decide) (fun K hK => ?_)
        refine goes_ Tryd.func13 (by kernel_rfl) rfl #[.agg #[.int .i64 t468, .slice Ao34 t469.length co34], .agg #[.int .i64 t478, .slice Ao49 t479.length co49]] (by rfl) rfl rfl (by (try simp only [List.map_toArray, List.map_cons, List.map_nil]); first | done | rfl | (simp only [List.length_drop, List.length_take]; rfl)) ?_
        with_reducible refine (laws_eqAlphabet.calls kj18 t468 _ _ t469 t478 _ _ t479 true _ ?side1 ?side2 ?side3 ?side4 A42.out).mono ?_
        (case side1 => exact cP ((Kd.R_reads' HO_473001.out).2.2))
        (case side2 => exact (Kd.R_reads' HO_473001.out).2.1)
        (case side3 => exact cP ((Kd.R_reads' HO481.out).2.2))
        (case side4 => exact (Kd.R_reads' HO481.out).2.1)
        rintro e w50 ⟨rfl, hb⟩
        refine ⟨_, rfl, ?_⟩
        have n0_ := Aside0.mk (Kd.R_below (rP HO_9.out) hb)
        have n1_ := Aside0.mk (Kd.R_below (rP HO_473001.out) hb)
        have n2_ := Aside0.mk (Kd.R_below (rP HO481.out) hb)
        have n3_ := Aside0.mk (blkB BK456.out hb)
        have n4_ := Aside0.mk (blkB BK472.out hb)
        have n5_ := Aside0.mk (below_step (bW) hb)
        clear HO_9 HO_473001 HO481 BK456 BK472 HB; have HO_9 := n0_; have HO_473001 := n1_; have HO481 := n2_; have BK456 := n3_; have BK472 := n4_; have HB := n5_; clear n0_ n1_ n2_ n3_ n4_ n5_
        (try clear hb)
        (try clear hb2)
        (try clear hk)
        (try clear hi)
        refine hK.out _ _ ⟨(blk_cell BK472.out 0).trans rfl, (blk_cell BK472.out 1).trans rfl, (blk_cell BK456.out 0).trans rfl, (blk_cell BK456.out 1).trans rfl⟩ (fun hHeld => ?_)
        clear hK K
        refine norm_ (a' := ?_) ?_ ?_
        rotate_left
        ·show Act.put _ (some 51) _ = _
         simp only [Act.put, List.setIfInBounds_toArray, List.set_cons_zero, List.set_cons_succ, i64_w, i32_w]
         rfl
        refine pureS (i := 4) (N := some 52) (by kernel_rfl) ?_
        refine done_ (by kernel_rfl) ?_
        try go_wp2_with (first | ((with_reducible refine gate_callee (f := 10) rfl ?_); refine goesS (some 55) Tryd.func10 #[.slice A1 l1.length c1] ?_; (with_reducible refine (laws_toTermS.calls kj18 _ _ l1 t483 _ ?side1 ?side2 A44.out).mono ?_); (case side1 => exact cP (Kd.C_below HR1.out HB.out)); (case side2 => exact HC1.out); rintro e w51 ⟨v484, rfl, ho0, hb⟩; refine ⟨_, rfl, ?_⟩; have n0_ := Aside0.mk (Kd.R_elder' (rP HO_9.out) (Kd.R_base ho0) hb); have n1_ := Aside0.mk (Kd.R_below (rP HO_473001.out) hb); have n2_ := Aside0.mk (Kd.R_below (rP HO481.out) hb); have n3_ := Aside0.mk (Kd.R_lower (Kd.R_new' ho0 (Kd.R_lt (rP HO_9.out))) (below_size (bW))); have n4_ := Aside0.mk (blkB BK456.out hb); have n5_ := Aside0.mk (blkB BK472.out hb); have n6_ := Aside0.mk (below_step (bW) hb); clear HO_9 HO_473001 HO481 BK456 BK472 HB; have HO_9 := n0_; have HO_473001 := n1_; have HO481 := n2_; have HO485 := n3_; have BK456 := n4_; have BK472 := n5_; have HB := n6_; clear n0_ n1_ n2_ n3_ n4_ n5_ n6_; (try clear hb); (try clear hb2); (try clear hk); (try clear hi); (try clear ho0); obtain ⟨Ao52, co52, eo52⟩ := Kd.R_slice HO485.out; subst eo52) | ((with_reducible refine gate_callee (f := 14) rfl ?_); refine goesS (some 56) Tryd.func14 #[.slice Ao37 t473.length co37, .slice Ao52 t483.length co52] ?_; (with_reducible refine (laws_eqTermS.calls kj18 _ _ t473 _ _ t483 true _ ?side1 ?side2 ?side3 ?side4 A45.out).mono ?_); (case side1 => exact cP ((Kd.R_reads' HO_9.out).2.2)); (case side2 => exact (Kd.R_reads' HO_9.out).2.1); (case side3 => exact cP ((Kd.R_reads' HO485.out).2.2)); (case side4 => exact (Kd.R_reads' HO485.out).2.1); rintro e w53 ⟨rfl, hb⟩; refine ⟨_, rfl, ?_⟩; have n0_ := Aside0.mk (Kd.R_below (rP HO_9.out) hb); have n1_ := Aside0.mk (Kd.R_below (rP HO_473001.out) hb); have n2_ := Aside0.mk (Kd.R_below (rP HO481.out) hb); have n3_ := Aside0.mk (Kd.R_below (rP HO485.out) hb); have n4_ := Aside0.mk (blkB BK456.out hb); have n5_ := Aside0.mk (blkB BK472.out hb); have n6_ := Aside0.mk (below_step (bW) hb); clear HO_9 HO_473001 HO481 HO485 BK456 BK472 HB; have HO_9 := n0_; have HO_473001 := n1_; have HO481 := n2_; have HO485 := n3_; have BK456 := n4_; have BK472 := n5_; have HB := n6_; clear n0_ n1_ n2_ n3_ n4_ n5_ n6_; (try clear hb); (try clear hb2); (try clear hk); (try clear hi)))
        go_ret
        exact ⟨eW, bW⟩
       ·replace c46 := Bool.eq_false_iff.mpr c46
        subst c46
        have H1 : (some false) = some r := by rw [if_neg (show ¬ (false = true) by decide)] at H; exact H
        clear H
        have H := H1
        clear H1
        exact absurd (Option.some.inj H) (by rw [HTr_.out]; decide)
      ·replace c43 := Bool.eq_false_iff.mpr c43
       subst c43
       have H1 : (some false) = some r := by rw [if_neg (show ¬ (false = true) by decide)] at H; exact H
       clear H
       have H := H1
       clear H1
       exact absurd (Option.some.inj H) (by rw [HTr_.out]; decide)
/-! ### spec_StarFault: function 21 -/
/-! ### impl_StarFault: function 22 -/
end Go.Proofs.YtcbcfkmeemenkaaDoor.P
end M1
section M2
namespace Go.Proofs.YtcbcfkmeemenkaaDoor.Op
open Go.RowKit Go.Proofs.YtcbcfkmeemenkaaDoorW.PrintWords Go.Proofs.YtcbcfkmeemenkaaDoorW.PrintLast Go.Proofs.YtcbcfkmeemenkaaDoorW.PrintMore
/-- What is read at type t lies in memory as kind d says. -/
def Opens {α : Type} (P : Program) (t : TypeId) (d : Kd α) (ok : α → Prop) : Prop :=
  ∀ (H : Type) (enc : TypeId × Value → H) (w : World) (base : Nat) (held : Bool) (fuel : Nat) (cs : List Value) (x : DataW H × List MemPlace),
    DataW.trod enc P w base (fun _ => true) held fuel t cs = some x → ∃ a, d.K w a cs ∧ ok a
theorem opens_int {P : Program} {t : TypeId} {k : IntKind} (ht : P.underlying t = some (.int k)) : Opens P t (Kd.int k) (fun n => (Lit.int k n).wf = true) := by
  intro H enc w base held fuel cs x h
  obtain ⟨n, rfl, _, hw⟩ := DataW.trod_int ht h
  exact ⟨n, rfl, hw⟩
theorem opens_slice {α : Type} {P : Program} {t e : TypeId} {d : Kd α} {ok : α → Prop} (ht : P.underlying t = some (.slice e)) (hc : P.cellsOf e = d.sz) (he : Opens P e d ok) :
    Opens P t (Kd.slice e d) (fun xs => xs.length ≤ maxLen ∧ ∀ x ∈ xs, ok x) := by
  intro H enc w base held fuel cs x h
  rcases DataW.trod_slice ht h with ⟨rfl, _⟩ | ⟨a, len, cap, elems, rest, n, _, rfl, _, hb, hl, hm, hlen, hel, _, _⟩
  · exact ⟨[], ⟨none, 0, rfl, Nat.le_refl _, rfl, by simp, fun h => absurd h (by simp)⟩, by simp, by simp⟩
  · have each : ∀ i, i < len → ∃ y : α × List Value, y.2.length = d.sz ∧ d.K w y.1 y.2 ∧ ok y.1 ∧ ∀ j u, y.2[j]? = some u → w.cell? (a.add (i * d.sz + j)) = some u := by
      intro i hi
      have h1 := hel i hi
      rw [List.getElem?_eq_getElem (by omega), Option.bind_eq_some_iff] at h1
      obtain ⟨cs', h2, h3⟩ := h1
      obtain ⟨y, hk, ho⟩ := he _ _ _ _ _ _ _ _ h3
      obtain ⟨_, h5, h6⟩ := World.cells?_some h2
      refine ⟨(y, cs'), h5.trans hc, hk, ho, fun j u hj => ?_⟩
      have hjl : j < P.cellsOf e := by rw [← h5]; exact (List.getElem?_eq_some_iff.1 hj).1
      have h7 := h6 j hjl
      rw [hj, hc] at h7
      rw [← Addr.add_add]
      exact h7
    have hy := fun i : Fin len => Classical.choose_spec (each i.1 i.2)
    generalize hY : (fun i : Fin len => Classical.choose (each i.1 i.2)) = y at hy
    have hy' : ∀ i : Fin len, (y i).2.length = d.sz ∧ d.K w (y i).1 (y i).2 ∧ ok (y i).1 ∧ ∀ j u, (y i).2[j]? = some u → w.cell? (a.add (i.1 * d.sz + j)) = some u := by
      intro i; rw [← hY]; exact hy i
    clear hy hY
    have hln : (List.ofFn fun i => (y i).1).length = len := by simp
    refine ⟨List.ofFn fun i => (y i).1, ⟨some a, cap, by rw [hln], by rw [hln]; exact hl, ?_⟩, by rw [hln]; omega, ?_⟩
    · refine ⟨rfl, by rw [hln]; unfold maxLen at hm; omega, fun _ => ⟨a, rfl, fun j p hj => ?_⟩⟩
      have hjl : j < len := by rw [← hln]; exact (List.getElem?_eq_some_iff.1 hj).1
      rw [List.getElem?_ofFn, dif_pos hjl, Option.some.injEq] at hj
      subst hj
      obtain ⟨q1, q2, _, q4⟩ := hy' ⟨j, hjl⟩
      exact ⟨(y ⟨j, hjl⟩).2, q1, q2, fun i u hi => q4 i u hi⟩
    · intro x hx
      rw [List.mem_ofFn] at hx
      obtain ⟨i, rfl⟩ := hx
      exact (hy' i).2.2.1
/-- An argument that is a slice. -/
theorem open_row {α : Type} {P : Program} {t e : TypeId} {d : Kd α} {ok : List α → Prop} {H : Type} {enc : TypeId × Value → H} {w : World} {base fuel : Nat} {held : Bool} {v : Value} {x : DataW H × List MemPlace}
    (h : DataW.trod enc P w base (fun _ => true) held fuel t [v] = some x) (hs : Opens P t (Kd.slice e d) ok) : ∃ A c xs, v = .slice A xs.length c ∧ xs.length ≤ c ∧ d.C w A xs.length xs ∧ ok xs := by
  obtain ⟨xs, ⟨A, c, hv, hl, hr⟩, ho⟩ := hs _ _ _ _ _ _ _ _ h
  exact ⟨A, c, xs, by simpa using hv, hl, hr, ho⟩
end Go.Proofs.YtcbcfkmeemenkaaDoor.Op
end M2
section M3
namespace Go.Proofs.YtcbcfkmeemenkaaDoor.P
open Go.RowKit Go.Proofs.YtcbcfkmeemenkaaDoor.Op Go.Proofs.YtcbcfkmeemenkaaDoorW.PrintWords Go.Proofs.YtcbcfkmeemenkaaDoorW.PrintLast Go.ChangeShapes Go.WideShapes Go.ChangeAt Go.Lib Go.Joins Go.ChangeShapes Go.Deep Go.Joins
def okT52 (x : S52) : Prop := ((Lit.int .i64 x.f0).wf = true) ∧ ((Lit.int .i64 x.f1).wf = true)
set_option maxRecDepth 100000 in
theorem opensT52 : Opens Tryd.prog 52 k52 okT52 := by
  intro H enc w base held fuel cs x h
  obtain ⟨y0, y1, n_, -, hl, h0, h1⟩ := trod_struct2 Tryd.underlying52 h
  have hc : Tryd.prog.cellsOf 52 = 2 := by kernel_rfl
  have e2 : Tryd.prog.cellsOf 2 = 1 := by kernel_rfl
  rw [hc] at hl
  match cs, hl with
  | [c0, c1], _ =>
    simp only [e2, List.drop, List.take] at h0 h1
    obtain ⟨x0, q0, o0⟩ := (opens_int Tryd.underlying2) _ _ _ _ _ _ _ _ h0
    obtain ⟨x1, q1, o1⟩ := (opens_int Tryd.underlying2) _ _ _ _ _ _ _ _ h1
    exact ⟨⟨x0, x1⟩, ⟨[c0], [c1], rfl, q0, q1⟩, o0, o1⟩
end Go.Proofs.YtcbcfkmeemenkaaDoor.P
end M3
section M4
namespace Go.Proofs.YtcbcfkmeemenkaaDoor.U
open Go.RowKit Go.Proofs.YtcbcfkmeemenkaaDoorW.PrintWords Go.Proofs.YtcbcfkmeemenkaaDoorW.PrintLast
set_option linter.unusedVariables false
/-! Small laws of numbers and lists for the plain part: what a printed loop comes to. -/
theorem w64 {n : Int} (h0 : -9223372036854775808 ≤ n) (h1 : n ≤ 9223372036854775807) : wrap64 n = n := by unfold wrap64; omega
theorem w64s {n : Nat} (h : n < 9223372036854775807) : wrap64 ((n : Int) + 1) = ((n + 1 : Nat) : Int) := by unfold wrap64; omega
theorem rdn (l : List Int) (i : Nat) : rd l (i : Int) = l.getD i 0 := rfl
theorem rd_lt {l : List Int} {i : Nat} (h : i < l.length) : rd l (i : Int) = l[i] := by
  show l.getD i 0 = _; rw [List.getD_eq_getElem?_getD, List.getElem?_eq_getElem h]; rfl
theorem Ev.now' {α : Type} {g : Nat → Option α} {r : α} (h : ∀ k, g k = some r) : Ev g r := ⟨0, fun k _ => h k⟩
/-- One round more, the loop's own equation still to be unfolded. -/
theorem Ev.round {α : Type} {g : Nat → Option α} {r : α} (h : Ev (fun k => g (k + 1)) r) : Ev g r := by
  obtain ⟨K, h⟩ := h
  refine ⟨K + 1, fun n hn => ?_⟩
  obtain ⟨m, rfl⟩ : ∃ m, n = m + 1 := ⟨n - 1, by omega⟩
  exact h m (by omega)
theorem Ev.here {α β : Type} {g : Option α} {f : Nat → α → Option β} {a : α} {r : β} (h : g = some a) (k : Ev (fun n => f n a) r) : Ev (fun n => g.bind (f n)) r := by
  subst h; exact k
theorem Ev.yes {α : Type} {c : Prop} [Decidable c] {A B : Nat → Option α} {r : α} (h : c) (k : Ev A r) : Ev (fun n => if c then A n else B n) r := Ev.congr (fun _ => if_pos h) k
theorem Ev.no {α : Type} {c : Prop} [Decidable c] {A B : Nat → Option α} {r : α} (h : ¬ c) (k : Ev B r) : Ev (fun n => if c then A n else B n) r := Ev.congr (fun _ => if_neg h) k
theorem Ev.det {α : Type} {g : Nat → Option α} {a b : α} (h : Ev g a) (k : Ev g b) : a = b := by
  obtain ⟨K, h⟩ := h
  obtain ⟨L, k⟩ := k
  have h1 := h (max K L) (by omega)
  have h2 := k (max K L) (by omega)
  exact Option.some.inj (h1.symm.trans h2)
/-- An upward loop over an index: what it comes to from i on, if what one round does is known. -/
theorem Ev.up {σ ρ : Type} (L : Nat → σ → Int → Option ρ) (n : Nat) (R : Nat → σ → ρ) (I : Nat → σ → Prop)
    (hend : ∀ s, I n s → Ev (fun k => L k s (n : Int)) (R n s))
    (hstep : ∀ i s, i < n → I i s → (∀ s', I (i + 1) s' → Ev (fun k => L k s' ((i + 1 : Nat) : Int)) (R (i + 1) s')) → Ev (fun k => L k s (i : Int)) (R i s)) :
    ∀ i s, i ≤ n → I i s → Ev (fun k => L k s (i : Int)) (R i s) := by
  intro i s hi hI
  obtain ⟨d, hd⟩ : ∃ d, n - i = d := ⟨_, rfl⟩
  induction d generalizing i s with
  | zero =>
    have : i = n := by omega
    subst this
    exact hend s hI
  | succ d ih => exact hstep i s (by omega) hI (fun s' h' => ih (i + 1) s' (by omega) h' (by omega))
/-- The rounds come to something that Q says. -/
def EvP {α : Type} (g : Nat → Option α) (Q : α → Prop) : Prop := ∃ r, Ev g r ∧ Q r
theorem EvP.of {α : Type} {g : Nat → Option α} {Q : α → Prop} {r : α} (h : Ev g r) (q : Q r) : EvP g Q := ⟨r, h, q⟩
theorem EvP.ret {α : Type} {Q : α → Prop} {r : α} (q : Q r) : EvP (fun _ => some r) Q := ⟨r, Ev.now r, q⟩
theorem EvP.mono {α : Type} {g : Nat → Option α} {Q Q' : α → Prop} (h : EvP g Q) (k : ∀ r, Q r → Q' r) : EvP g Q' := by
  obtain ⟨r, h, q⟩ := h; exact ⟨r, h, k r q⟩
theorem EvP.round {α : Type} {g : Nat → Option α} {Q : α → Prop} (h : EvP (fun k => g (k + 1)) Q) : EvP g Q := by
  obtain ⟨r, h, q⟩ := h; exact ⟨r, Ev.round h, q⟩
theorem EvP.yes {α : Type} {c : Prop} [Decidable c] {A B : Nat → Option α} {Q : α → Prop} (h : c) (k : EvP A Q) : EvP (fun n => if c then A n else B n) Q := by
  obtain ⟨r, k, q⟩ := k; exact ⟨r, Ev.yes h k, q⟩
theorem EvP.no {α : Type} {c : Prop} [Decidable c] {A B : Nat → Option α} {Q : α → Prop} (h : ¬ c) (k : EvP B Q) : EvP (fun n => if c then A n else B n) Q := by
  obtain ⟨r, k, q⟩ := k; exact ⟨r, Ev.no h k, q⟩
theorem EvP.here {α β : Type} {g : Option α} {f : Nat → α → Option β} {a : α} {Q : β → Prop} (h : g = some a) (k : EvP (fun n => f n a) Q) : EvP (fun n => g.bind (f n)) Q := by
  obtain ⟨r, k, q⟩ := k; exact ⟨r, Ev.here h k, q⟩
theorem EvP.bind {α β : Type} {g : Nat → Option α} {f : Nat → α → Option β} {a : α} {Q : β → Prop} (h : Ev g a) (k : EvP (fun n => f n a) Q) : EvP (fun n => (g n).bind (f n)) Q := by
  obtain ⟨r, k, q⟩ := k; exact ⟨r, Ev.bind h k, q⟩
theorem EvP.bindP {α β : Type} {g : Nat → Option α} {f : Nat → α → Option β} {R : α → Prop} {Q : β → Prop} (h : EvP g R) (k : ∀ a, R a → EvP (fun n => f n a) Q) : EvP (fun n => (g n).bind (f n)) Q := by
  obtain ⟨a, h, q⟩ := h; exact EvP.bind h (k a q)
theorem EvP.up {σ ρ : Type} (L : Nat → σ → Int → Option ρ) (Q : ρ → Prop) (n : Nat) (I : Nat → σ → Prop)
    (hend : ∀ s, I n s → EvP (fun k => L k s (n : Int)) Q)
    (hstep : ∀ i s, i < n → I i s → (∀ s', I (i + 1) s' → EvP (fun k => L k s' ((i + 1 : Nat) : Int)) Q) → EvP (fun k => L k s (i : Int)) Q) :
    ∀ i s, i ≤ n → I i s → EvP (fun k => L k s (i : Int)) Q := by
  intro i s hi hI
  obtain ⟨d, hd⟩ : ∃ d, n - i = d := ⟨_, rfl⟩
  induction d generalizing i s with
  | zero =>
    have : i = n := by omega
    subst this
    exact hend s hI
  | succ d ih => exact hstep i s (by omega) hI (fun s' h' => ih (i + 1) s' (by omega) h' (by omega))
/-- How many are still false. -/
def falses (l : List Bool) : Nat := l.count false
theorem falses_set {l : List Bool} {i : Nat} (hi : i < l.length) (h : l[i] = false) : falses (l.set i true) + 1 = falses l := by
  induction l generalizing i with
  | nil => simp at hi
  | cons b l ih =>
    cases i with
    | zero =>
      simp only [List.getElem_cons_zero] at h
      subst h
      simp [falses]
    | succ i =>
      simp only [List.getElem_cons_succ] at h
      have := ih (by simpa using hi) h
      simp only [List.set_cons_succ, falses, List.count_cons] at this ⊢
      omega
end Go.Proofs.YtcbcfkmeemenkaaDoor.U
end M4
section M5
namespace Go.Proofs.YtcbcfkmeemenkaaDoor.U
open Go.RowKit Go.Proofs.YtcbcfkmeemenkaaDoor.P Go.Proofs.YtcbcfkmeemenkaaDoorW.PrintWords Go.Proofs.YtcbcfkmeemenkaaDoorW.PrintLast
set_option linter.unusedVariables false
/-! What the law's own helpers come to: copies, equality, sizes. -/
theorem toS (x0 : List Int) (hn : x0.length ≤ 35184372088832) : Ev (fun k => laws_toInt64S.f k x0) x0 := by
  have key := Ev.up (fun k s i => laws_toInt64S.l0 k x0 s i) x0.length (fun _ _ => x0) (fun i s => s.length = x0.length ∧ ∀ j, j < i → s[j]? = x0[j]?)
    (fun s ⟨h1, h2⟩ => by
      refine Ev.round ?_
      simp only [laws_toInt64S.l0]
      refine Ev.no (by omega) ?_
      have : s = x0 := List.ext_getElem? fun j => by
        by_cases hj : j < x0.length
        · exact h2 j hj
        · rw [List.getElem?_eq_none (by omega), List.getElem?_eq_none (by omega)]
      rw [this]
      exact Ev.now _)
    (fun i s hi ⟨h1, h2⟩ ih => by
      refine Ev.round ?_
      simp only [laws_toInt64S.l0]
      refine Ev.yes (by omega) (Ev.yes (by omega) (Ev.yes (by omega) ?_))
      rw [w64s (by omega)]
      refine ih _ ⟨by simp [h1], fun j hj => ?_⟩
      rw [Int.toNat_natCast, rd_lt hi]
      by_cases e : j = i
      · subst e
        rw [List.getElem?_set_self (by omega), List.getElem?_eq_getElem hi]
      · rw [List.getElem?_set_ne (by omega)]
        exact h2 j (by omega))
  unfold laws_toInt64S.f
  refine Ev.yes (by omega) (Ev.yes (by omega) ?_)
  have := key 0 (List.replicate x0.length 0) (by omega) ⟨by simp, fun j hj => absurd hj (by omega)⟩
  simpa using this
theorem eqS (a b : List Int) (hn : a.length ≤ 9223372036854775806) : Ev (fun k => laws_eqInt64S.f k a b) (decide (a = b)) := by
  unfold laws_eqInt64S.f
  by_cases hl : a.length = b.length
  · refine Ev.yes (by omega) ?_
    have key := Ev.up (fun k (_ : Unit) i => laws_eqInt64S.l0 k a b i) a.length (fun _ _ => decide (a = b)) (fun i _ => ∀ j, j < i → a[j]? = b[j]?)
      (fun _ h2 => by
        refine Ev.round ?_
        simp only [laws_eqInt64S.l0]
        refine Ev.no (by omega) ?_
        have : a = b := List.ext_getElem? fun j => by
          by_cases hj : j < a.length
          · exact h2 j hj
          · rw [List.getElem?_eq_none (by omega), List.getElem?_eq_none (by omega)]
        rw [decide_eq_true this]
        exact Ev.now _)
      (fun i _ hi h2 ih => by
        refine Ev.round ?_
        simp only [laws_eqInt64S.l0]
        refine Ev.yes (by omega) (Ev.yes (by omega) (Ev.yes (by omega) ?_))
        rw [rd_lt hi, rd_lt (by omega : i < b.length), w64s (by omega)]
        by_cases e : a[i] = b[i]
        · refine Ev.yes e (ih () fun j hj => ?_)
          by_cases e' : j = i
          · subst e'
            rw [List.getElem?_eq_getElem hi, List.getElem?_eq_getElem (by omega), e]
          · exact h2 j (by omega)
        · refine Ev.no e ?_
          rw [decide_eq_false (fun h => e (by subst h; rfl))]
          exact Ev.now _)
    have := key 0 () (by omega) (fun j hj => absurd hj (by omega))
    simpa using this
  · refine Ev.no (by omega) ?_
    rw [decide_eq_false (fun h => hl (by rw [h]))]
    exact Ev.now _
end Go.Proofs.YtcbcfkmeemenkaaDoor.U
end M5
section M6
namespace Go.Proofs.YtcbcfkmeemenkaaDoor.U
open Go.RowKit Go.Proofs.YtcbcfkmeemenkaaDoorW.PrintWords Go.Proofs.YtcbcfkmeemenkaaDoorW.PrintLast Go.Proofs.YtcbcfkmeemenkaaDoorW.PrintMore
set_option linter.unusedVariables false
/-! Sets as numbers. -/
theorem i64_id (n : Int) (h0 : 0 ≤ n) (h1 : n < 2 ^ 63) : IntKind.i64.wrap n = n := by rw [IntKind.wrap_i64]; omega
theorem bor {a b : Nat} (ha : a < 2 ^ 63) (hb : b < 2 ^ 63) : bits .or .i64 (a : Int) (b : Int) = ((a ||| b : Nat) : Int) := (bits_nat .i64 63 (by decide) i64_id a b ha hb).2
theorem band {a b : Nat} (ha : a < 2 ^ 63) (hb : b < 2 ^ 63) : bits .and .i64 (a : Int) (b : Int) = ((a &&& b : Nat) : Int) := (bits_nat .i64 63 (by decide) i64_id a b ha hb).1
theorem shl1 {i : Nat} (hi : i < 63) : shl .i64 1 (i : Int) = ((2 ^ i : Nat) : Int) := by
  unfold shl
  rw [Int.toNat_natCast]
  have : min i IntKind.i64.bits = i := Nat.min_eq_left (by show i ≤ 64; omega)
  rw [this, Int.one_mul]
  have h := Nat.pow_lt_pow_right (a := 2) (by decide) hi
  rw [show ((2 : Int) ^ i) = ((2 ^ i : Nat) : Int) from by simp]
  exact i64_id _ (Int.natCast_nonneg _) (by exact_mod_cast h)
/-- The members k < n with p k, joined to s. -/
def orN (p : Nat → Bool) : Nat → Nat → Nat
  | 0, s => s
  | n + 1, s => if p n then orN p n s ||| 2 ^ n else orN p n s
theorem orN_yes {p : Nat → Bool} {n s : Nat} (h : p n = true) : orN p (n + 1) s = orN p n s ||| 2 ^ n := if_pos h
theorem orN_no {p : Nat → Bool} {n s : Nat} (h : p n = false) : orN p (n + 1) s = orN p n s := if_neg (by rw [h]; simp)
theorem testBit_orN (p : Nat → Bool) (n s j : Nat) : (orN p n s).testBit j = (s.testBit j || (decide (j < n) && p j)) := by
  induction n with
  | zero => simp [orN]
  | succ n ih =>
    unfold orN
    by_cases h : p n
    · rw [if_pos h, Nat.testBit_or, ih, Nat.testBit_two_pow]
      by_cases e : n = j
      · subst e; simp [h]
      · have e2 : decide (j < n + 1) = decide (j < n) := by rw [decide_eq_decide]; omega
        rw [e2]; simp [e]
    · rw [if_neg h, ih]
      by_cases e : n = j
      · subst e; simp [h]
      · have e2 : decide (j < n + 1) = decide (j < n) := by rw [decide_eq_decide]; omega
        rw [e2]
theorem orN_lt (p : Nat → Bool) (n s m : Nat) (hn : n ≤ m) (hs : s < 2 ^ m) : orN p n s < 2 ^ m := by
  induction n with
  | zero => exact hs
  | succ n ih =>
    unfold orN
    split
    · exact Nat.or_lt_two_pow (ih (by omega)) (Nat.pow_lt_pow_right (by decide) (by omega))
    · exact ih (by omega)
theorem hasN {m s : Nat} (hm : m < 2 ^ 63) (hs : s ≤ 64) : ((bits .and .i64 (shr .i64 (m : Int) (s : Int)) 1) == 1) = m.testBit s := by
  have hsh : shr .i64 (m : Int) (s : Int) = ((m / 2 ^ s : Nat) : Int) := by
    unfold shr
    rw [Int.toNat_natCast, Nat.min_eq_left (show s ≤ IntKind.i64.bits from hs)]
    rw [show ((2 : Int) ^ s) = ((2 ^ s : Nat) : Int) from by simp]
    exact (Int.natCast_ediv _ _).symm
  have hq : m / 2 ^ s < 2 ^ 63 := Nat.lt_of_le_of_lt (Nat.div_le_self _ _) hm
  rw [hsh, show (1 : Int) = ((1 : Nat) : Int) from rfl, band hq (by decide), Nat.and_one_is_mod, Nat.testBit_eq_decide_div_mod_eq]
  generalize m / 2 ^ s % 2 = r
  by_cases h : r = 1
  · subst h; rfl
  · rw [decide_eq_false h]
    simp; omega
end Go.Proofs.YtcbcfkmeemenkaaDoor.U
end M6
