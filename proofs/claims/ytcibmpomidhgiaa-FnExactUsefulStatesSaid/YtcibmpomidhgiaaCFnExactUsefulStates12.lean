import Derived.ArgAppend
import Derived.Below
import Derived.BigQuiet
import Derived.ChangeShapes
import Derived.Deep.AppendLies
import Derived.Deep.CutBlock
import Derived.Deep.DeepCutAuto
import Derived.Deep.Draws
import Derived.Deep.LoopGhost
import Derived.Deep.OwnRows
import Derived.Deep.QuietTactic
import Derived.Deep.RegionHeld3
import Derived.Deep.Slices
import Derived.KernelRfl
import Derived.Laws.BitsLemmas
import Derived.Laws.BytesArg
import Derived.Laws.IdiomCopy
import Derived.Laws.MakeOwn
import Derived.Laws.OwnMore
import Derived.Laws.Rows
import Derived.Laws.Slices
import Derived.Laws.StructEq
import Derived.Lib.AppendStr
import Derived.Lib.ConvBytes
import Derived.Lib.SliceRun
import Derived.Lib.SmallJoins
import Derived.Maps.AppendAt
import Derived.OrdersHeld
import Derived.OwnWalk
import Derived.RowKit
import Derived.RowKit3
import Derived.Shelf.Abstract
import Derived.Tactics
import Derived.Test.YtcibmpomidhgiaaProg
import Derived.WalkKit
import Derived.WideLaws
import Derived.Test.YtcibmpomidhgiaaCFnExactUsefulStates0
import Derived.Test.YtcibmpomidhgiaaCFnExactUsefulStates1
import Derived.Test.YtcibmpomidhgiaaCFnExactUsefulStates2
import Derived.Test.YtcibmpomidhgiaaCFnExactUsefulStates3
import Derived.Test.YtcibmpomidhgiaaCFnExactUsefulStates4
import Derived.Test.YtcibmpomidhgiaaCFnExactUsefulStates5
import Derived.Test.YtcibmpomidhgiaaCFnExactUsefulStates6
import Derived.Test.YtcibmpomidhgiaaCFnExactUsefulStates7
import Derived.Test.YtcibmpomidhgiaaCFnExactUsefulStates8
import Derived.Test.YtcibmpomidhgiaaCFnExactUsefulStates9
import Derived.Test.YtcibmpomidhgiaaCFnExactUsefulStates10
import Derived.Test.YtcibmpomidhgiaaCFnExactUsefulStates11
section M0
namespace Go.Proofs.Ytcibmpomidhgiaa.P
open Go.RowKit Go.Proofs.Ytcibmpomidhgiaa.Sh Go.Proofs.YtcibmpomidhgiaaW.PrintWords Go.Proofs.YtcibmpomidhgiaaW.PrintLast Go.Proofs.YtcibmpomidhgiaaW.PrintMore
attribute [local go_sem] max2_int min2_int max_two min_two max_three min_three max_four min_four   -- for this text's walks alone
set_option linter.unusedVariables false
set_option linter.unusedSimpArgs false

/-! ### impl_UsefulStates: function 26 -/
def impl_UsefulStates.l0 : Nat → Int → List Bool → Int → Int → Option (Int × Int)
 | 0, _, _, _, _ => none
 | k + 1, x4, x12, x13, x14 => if x14 < x13 then (if 0 ≤ x14 then (if x14 < (x12.length : Int) then (if rdOf false x12 x14 = true then ((impl_one.f x14).bind fun t505 => (impl_UsefulStates.l0 k (Go.bits .or .i64 x4 t505) x12 x13 (wrap64 (x14 + 1)))) else (impl_UsefulStates.l0 k x4 x12 x13 (wrap64 (x14 + 1)))) else (none)) else (none)) else (some (x4, 0))
def impl_UsefulStates.f (k : Nat) (a0_0 : Int) (a0_1 : Int) (a0_2 : Int) (l0_3 : List (List Int)) : Option (Int × Int) := (impl_IsAutomaton.f a0_0 a0_1 a0_2 l0_3).bind fun t492 => (if t492 = true then ((impl_machineOf.f k a0_0 a0_1 a0_2 l0_3).bind fun bt493 => ((impl_machine_useful.f k bt493.1 bt493.2.1 bt493.2.2.1 bt493.2.2.2).bind fun t501 => (impl_UsefulStates.l0 k 0 t501 (t501.length : Int) 0))) else (some (0, 1)))
theorem impl_UsefulStates.mono_l : ∀ k, (∀ y0 y1 y2 y3, LeO (impl_UsefulStates.l0 k y0 y1 y2 y3) (impl_UsefulStates.l0 (k + 1) y0 y1 y2 y3))
 | 0 => fun _ _ _ _ r h => by simp [impl_UsefulStates.l0] at h
 | k + 1 => by
  have ih0 := impl_UsefulStates.mono_l k
  ·intro y0 y1 y2 y3
   unfold impl_UsefulStates.l0
   repeat' first
   | (with_reducible exact ih0 _ _ _ _)
   | (with_reducible exact impl_machineOf.mono _ _ _ _ _)
   | (with_reducible exact impl_machine_useful.mono _ _ _ _ _)
   | (with_reducible exact LeO.refl _)
   | (with_reducible exact LeO.none _)
   | (with_reducible refine LeO.ite ?_ ?_)
   | (with_reducible refine LeO.bind ?_ (fun _ => ?_))
   | exact ih0 _ _ _ _
   | exact impl_machineOf.mono _ _ _ _ _
   | exact impl_machine_useful.mono _ _ _ _ _
   | exact LeO.none _
   | refine LeO.ite ?_ ?_
   | refine LeO.bind ?_ (fun _ => ?_)
theorem impl_UsefulStates.mono : ∀ a0 a1 a2 a3 k, LeO (impl_UsefulStates.f k a0 a1 a2 a3) (impl_UsefulStates.f (k + 1) a0 a1 a2 a3) := by
 intro a0 a1 a2 a3 k
 have ih0 := impl_UsefulStates.mono_l k
 unfold impl_UsefulStates.f
 repeat' first
   | (with_reducible exact ih0 _ _ _ _)
   | (with_reducible exact impl_machineOf.mono _ _ _ _ _)
   | (with_reducible exact impl_machine_useful.mono _ _ _ _ _)
   | (with_reducible exact LeO.refl _)
   | (with_reducible exact LeO.none _)
   | (with_reducible refine LeO.ite ?_ ?_)
   | (with_reducible refine LeO.bind ?_ (fun _ => ?_))
   | exact ih0 _ _ _ _
   | exact impl_machineOf.mono _ _ _ _ _
   | exact impl_machine_useful.mono _ _ _ _ _
   | exact LeO.none _
   | refine LeO.ite ?_ ?_
   | refine LeO.bind ?_ (fun _ => ?_)
set_option maxHeartbeats 8000000 in
set_option maxRecDepth 100000 in
theorem impl_UsefulStates.calls (k : Nat) (a0_0 : Int) (a0_1 : Int) (a0_2 : Int) (A0_3 : Option Addr) (c0_3 : Nat) (l0_3 : List (List Int)) (r1 : Int) (r2 : Int) (w : World) (hr0_3 : Kd.C (Kd.slice 2 (Kd.int .i64)) w A0_3 l0_3.length l0_3) (hc0_3 : l0_3.length ≤ c0_3) (h : impl_UsefulStates.f k a0_0 a0_1 a0_2 l0_3 = some (r1, r2)) :
  Calls Try.prog 26 #[.agg #[.int .i64 a0_0, .int .i64 a0_1, .int .i64 a0_2, .slice A0_3 l0_3.length c0_3]] w fun e w' => e = .returned (.tuple #[.int .i64 r1, .int .i64 r2]) ∧ Below w.heap.size w w' := by
 have hu38 := Try.underlying38
 have HR0_3 := Aside0.mk hr0_3
 have HC0_3 := Aside0.mk hc0_3
 clear hr0_3 hc0_3
 have HB := Aside0.mk (Below.refl w.heap.size w)
 have H : ((impl_IsAutomaton.f a0_0 a0_1 a0_2 l0_3).bind fun t492 => (if t492 = true then ((impl_machineOf.f k a0_0 a0_1 a0_2 l0_3).bind fun bt493 => ((impl_machine_useful.f k bt493.1 bt493.2.1 bt493.2.2.1 bt493.2.2.2).bind fun t501 => (impl_UsefulStates.l0 k 0 t501 (t501.length : Int) 0))) else (some (0, 1)))) = some (r1, r2) := h
 clear h
 replace H := Option.bind_eq_some_iff.mp H
 obtain ⟨t492, A20, H⟩ := H
 replace H : (if t492 = true then ((impl_machineOf.f k a0_0 a0_1 a0_2 l0_3).bind fun bt493 => ((impl_machine_useful.f k bt493.1 bt493.2.1 bt493.2.2.1 bt493.2.2.2).bind fun t501 => (impl_UsefulStates.l0 k 0 t501 (t501.length : Int) 0))) else (some (0, 1))) = some (r1, r2) := H
 have A2 := Aside0.mk A20
 clear A20
 by_cases c3 : t492 = true
 ·subst c3
  have H1 : ((impl_machineOf.f k a0_0 a0_1 a0_2 l0_3).bind fun bt493 => ((impl_machine_useful.f k bt493.1 bt493.2.1 bt493.2.2.1 bt493.2.2.2).bind fun t501 => (impl_UsefulStates.l0 k 0 t501 (t501.length : Int) 0))) = some (r1, r2) := by rw [if_pos rfl] at H; exact H
  clear H
  have H := H1
  clear H1
  replace H := Option.bind_eq_some_iff.mp H
  obtain ⟨⟨t493, t494, t495, t498⟩, A40, H⟩ := H
  replace H : ((impl_machine_useful.f k t493 t494 t495 t498).bind fun t501 => (impl_UsefulStates.l0 k 0 t501 (t501.length : Int) 0)) = some (r1, r2) := H
  have A4 := Aside0.mk A40
  clear A40
  replace H := Option.bind_eq_some_iff.mp H
  obtain ⟨t501, A50, H⟩ := H
  replace H : (impl_UsefulStates.l0 k 0 t501 (t501.length : Int) 0) = some (r1, r2) := H
  have A5 := Aside0.mk A50
  clear A50
  have H' := Aside0.mk H
  clear H
  go_enter Try.func26, Try.ntmps26
  go_wp2_with (first | ((with_reducible refine gate_dst (N := 1) rfl ?_); refine boxS (N := 1) (cs := #[.int .i64 a0_0, .int .i64 a0_1, .int .i64 a0_2, .slice A0_3 l0_3.length c0_3]) (t := 38) ?_; intro gb491 hg w6 hbox hb; have n0_ := Aside0.mk (below_step (bW) hb); have n1_ := Aside0.mk (hbox); have n2_ := geW (w := w) hg; have n3_ := geW (w := w) hg; clear HB; have HB := n0_; have BK491 := n1_; have GW491 := n2_; have GE491 := n3_; clear n0_ n1_ n2_ n3_; clear hb hbox hg; obtain ⟨hcz7_0, hcz7_1, hcz7_2, hcz7_3⟩ := cells4 BK491.out; obtain ⟨hfz7_0, hfz7_1, hfz7_2, hfz7_3⟩ := frz4 BK491.out) | ((with_reducible refine gate_callee (f := 19) rfl ?_); refine goesS (some 8) Try.func19 #[.agg #[.int .i64 a0_0, .int .i64 a0_1, .int .i64 a0_2, .slice A0_3 l0_3.length c0_3]] ?_; (with_reducible refine (impl_IsAutomaton.calls a0_0 a0_1 a0_2 _ _ l0_3 true _ ?side1 ?side2 A2.out).mono ?_); (case side1 => exact cP (Kd.C_below HR0_3.out HB.out)); (case side2 => exact HC0_3.out); rintro e w8 ⟨rfl, hb⟩; refine ⟨_, rfl, ?_⟩; have n0_ := Aside0.mk (blkB BK491.out hb); have n1_ := Aside0.mk (below_step (bW) hb); clear BK491; clear HB; have BK491 := n0_; have HB := n1_; clear n0_ n1_; (try clear hb); (try clear hb2); (try clear hk); (try clear hi); obtain ⟨hcz9_0, hcz9_1, hcz9_2, hcz9_3⟩ := cells4 BK491.out; obtain ⟨hfz9_0, hfz9_1, hfz9_2, hfz9_3⟩ := frz4 BK491.out) | ((with_reducible refine gate_callee (f := 46) rfl ?_); refine goesS (some 11) Try.func46 #[.agg #[.int .i64 a0_0, .int .i64 a0_1, .int .i64 a0_2, .slice A0_3 l0_3.length c0_3]] ?_; (with_reducible refine (impl_machineOf.calls k a0_0 a0_1 a0_2 (fun k_ => k_ < w.heap.size) _ _ l0_3 t493 t494 t495 t498 _ ?side1 A4.out).mono ?_); (case side1 => exact Kd.V_mk HC0_3.out (Kd.F_below (Kd.C_F (Kd.heap_slice 2 (Kd.heap_int .i64)) HR0_3.out) (bW))); rintro e w10 ⟨v496, v499, rfl, ho0, ho1, hb⟩; refine ⟨_, rfl, ?_⟩; have n0_ := Aside0.mk (Kd.R_lower (Kd.R_mono (ok' := fun k_ => True) ho0 (fun _ hk_ => trivial)) (below_size (bW))); have n1_ := Aside0.mk (Kd.V_lower (Kd.V_mono (ok' := fun k_ => some k_ ≠ (v496 : Value).ownBlock ∧ k_ ≠ gb491) ho1 (fun k_ hk_ => ⟨hk_.2, Or.elim hk_.1 (fun hs_ => fun e_ => Nat.not_le.2 hs_ (by rw [e_]; exact GW491.out)) (fun hn_ => (Kd.freshB (g := gb491) (o := .cells #[.int .i64 a0_0, .int .i64 a0_1, .int .i64 a0_2, .slice A0_3 l0_3.length c0_3] 38 (0, 0)) (bP BK491.out) k_ hn_))⟩)) (below_size (bW))); have n2_ := Aside0.mk (blkB BK491.out hb); have n3_ := Aside0.mk (below_step (bW) hb); clear BK491; clear HB; have HO497 := n0_; have HO500 := n1_; have BK491 := n2_; have HB := n3_; clear n0_ n1_ n2_ n3_; (try clear hb); (try clear hb2); (try clear hk); (try clear hi); (try clear ho0); (try clear ho1); obtain ⟨Ao11, co11, eo11⟩ := Kd.R_slice HO497.out; subst eo11; obtain ⟨Ao12, co12, eo12⟩ := Kd.V_slice HO500.out; subst eo12) | ((with_reducible refine gate_callee (f := 56) rfl ?_); refine goesS (some 12) Try.func56 #[.agg #[.int .i64 t493, .int .i64 t494, .slice Ao11 t495.length co11, .slice Ao12 t498.length co12]] ?_; (with_reducible refine (impl_machine_useful.calls k t493 t494 _ _ t495 _ _ t498 t501 _ ?side1 ?side2 ?side3 ?side4 A5.out).mono ?_); (case side1 => exact cP ((Kd.R_reads' HO497.out).2.2)); (case side2 => exact (Kd.R_reads' HO497.out).2.1); (case side3 => exact cP ((Kd.V_reads' HO500.out).2.2)); (case side4 => exact (Kd.V_reads' HO500.out).2.1); rintro e w13 ⟨v502, rfl, ho0, hb⟩; refine ⟨_, rfl, ?_⟩; have n0_ := Aside0.mk (Kd.R_elder' (rP HO497.out) (Kd.R_base ho0) hb); have n1_ := Aside0.mk (Kd.V_elder' (by (with_reducible repeat (first | apply Kd.V_alloc | apply Kd.V_drewN | apply Kd.V_drew)); exact HO500.out) (Kd.R_base ho0) hb); have n2_ := Aside0.mk (Kd.R_lower (Kd.R_new' ho0 (Kd.R_lt (rP HO497.out))) (below_size (bW))); have n3_ := Aside0.mk (blkB BK491.out hb); have n4_ := Aside0.mk (below_step (bW) hb); clear HO497; clear HO500; clear BK491; clear HB; have HO497 := n0_; have HO500 := n1_; have HO503 := n2_; have BK491 := n3_; have HB := n4_; clear n0_ n1_ n2_ n3_ n4_; (try clear hb); (try clear hb2); (try clear hk); (try clear hi); (try clear ho0); obtain ⟨Ao14, co14, eo14⟩ := Kd.R_slice HO503.out; subst eo14))
  go_loopg [4, 14] k (fun kq v4 v14 w' => ∃ (x4_1 : Int) (x14_1 : Int), v4 = .int .i64 x4_1 ∧ v14 = .int .i64 x14_1 ∧ Aside0 (impl_UsefulStates.l0 kq x4_1 t501 (t501.length : Int) x14_1 = some (r1, r2)) ∧ Aside0 (kq ≤ k) ∧ Aside0 (Kd.R Kd.bool 4 w' w.heap.size (fun _ => True) (.slice Ao14 t501.length co14) t501) ∧ Aside0 (w'.heap[gb491]? = some (.cells #[.int .i64 a0_0, .int .i64 a0_1, .int .i64 a0_2, (.slice A0_3 l0_3.length c0_3)] 38 (0, 0))) ∧ Aside0 (Below w.heap.size w w'))
  case atStart => exact ⟨(0), (0), (eW), (eW), H', ⟨Nat.le_refl _⟩, ⟨by (with_reducible repeat (first | apply Kd.R_alloc | apply Kd.R_drewN | apply Kd.R_drew)); exact Kd.R_mono HO503.out (fun _ hk => trivial)⟩, ⟨(bP BK491.out)⟩, ⟨bW⟩⟩
  case round =>
   clear H'
   try clear c1
   try clear c2
   try clear p2
   try clear c3
   try clear c4
   try clear c5
   try clear hcz7_0
   try clear hcz7_1
   try clear hcz7_2
   try clear hcz7_3
   try clear hcz9_0
   try clear hcz9_1
   try clear hcz9_2
   try clear hcz9_3
   try clear hfz7_0
   try clear hfz7_1
   try clear hfz7_2
   try clear hfz7_3
   try clear hfz9_0
   try clear hfz9_1
   try clear hfz9_2
   try clear hfz9_3
   obtain ⟨x4_1, x14_1, rfl, rfl, HA, HK1, HO_12, BK491, HB⟩ := hrel
   cases gk with
   | zero => exact absurd HA.out (by simp [impl_UsefulStates.l0])
   | succ k1 =>
    have H := HA.out
    clear HA
    simp only [impl_UsefulStates.l0] at H
    by_cases c15 : x14_1 < (t501.length : Int)
    ·rw [if_pos c15] at H
     have c15b0 : decide (x14_1 < (t501.length : Int)) = true := decide_eq_true c15
     clear c15
     by_cases c16 : 0 ≤ x14_1
     ·rw [if_pos c16] at H
      have c16b0 : decide (0 ≤ x14_1) = true := decide_eq_true c16
      clear c16
      by_cases c17 : x14_1 < (t501.length : Int)
      ·rw [if_pos c17] at H
       have c17b0 : decide (x14_1 < (t501.length : Int)) = true := decide_eq_true c17
       clear c17
       obtain ⟨bq18, hbq18⟩ : ∃ b_ : Bool, b_ = (rdOf false t501 x14_1) := ⟨_, rfl⟩
       replace H : (if bq18 = true then ((impl_one.f x14_1).bind fun t505 => (impl_UsefulStates.l0 k1 (Go.bits .or .i64 x4_1 t505) t501 (t501.length : Int) (wrap64 (x14_1 + 1)))) else (impl_UsefulStates.l0 k1 x4_1 t501 (t501.length : Int) (wrap64 (x14_1 + 1)))) = some (r1, r2) := by rw [← hbq18] at H; exact H
       have Nbq18 := Aside0.mk hbq18
       clear hbq18
       by_cases c19 : bq18 = true
       ·subst c19
        have H1 : ((impl_one.f x14_1).bind fun t505 => (impl_UsefulStates.l0 k1 (Go.bits .or .i64 x4_1 t505) t501 (t501.length : Int) (wrap64 (x14_1 + 1)))) = some (r1, r2) := by rw [if_pos rfl] at H; exact H
        clear H
        have H := H1
        clear H1
        replace H := Option.bind_eq_some_iff.mp H
        obtain ⟨t505, A200, H⟩ := H
        replace H : (impl_UsefulStates.l0 k1 (Go.bits .or .i64 x4_1 t505) t501 (t501.length : Int) (wrap64 (x14_1 + 1))) = some (r1, r2) := H
        have A20 := Aside0.mk A200
        clear A200
        have H' := Aside0.mk H
        clear H
        have p504 : 0 ≤ (x14_1 : Int) := ofD
        have q504 : x14_1 < (t501.length : Int) := ofD
        obtain ⟨ad504, e504, hx504_0⟩ := Kd.at_bool (Kd.R_reads' HO_12.out).2.2 x14_1 p504 q504
        (try rw [← Nbq18.out] at hx504_0)
        cases e504
        replace p504 := eq_true p504
        replace q504 := eq_true q504
        go_wp2_with (first | ((with_reducible refine gate_callee (f := 57) rfl ?_); refine goesS (some 22) Try.func57 #[.int .i64 x14_1] ?_; (with_reducible refine (impl_one.calls x14_1 t505 _ A20.out).mono ?_); rintro e w' ⟨rfl, ⟨nd, rfl⟩⟩; refine ⟨_, rfl, ?_⟩))
        go_roundg k1
        case measure => have := HK1.out; omega
        case rel => exact ⟨(Go.bits .or .i64 x4_1 t505), (wrap64 (x14_1 + 1)), (eW), (eW), H', ⟨by have := HK1.out; omega⟩, ⟨(rP HO_12.out)⟩, ⟨(bP BK491.out)⟩, ⟨bW⟩⟩
       ·replace c19 := Bool.eq_false_iff.mpr c19
        subst c19
        have H1 : (impl_UsefulStates.l0 k1 x4_1 t501 (t501.length : Int) (wrap64 (x14_1 + 1))) = some (r1, r2) := by rw [if_neg (show ¬ (false = true) by decide)] at H; exact H
        clear H
        have H := H1
        clear H1
        have H' := Aside0.mk H
        clear H
        have p504 : 0 ≤ (x14_1 : Int) := ofD
        have q504 : x14_1 < (t501.length : Int) := ofD
        obtain ⟨ad504, e504, hx504_0⟩ := Kd.at_bool (Kd.R_reads' HO_12.out).2.2 x14_1 p504 q504
        (try rw [← Nbq18.out] at hx504_0)
        cases e504
        replace p504 := eq_true p504
        replace q504 := eq_true q504
        go_wp2
        go_roundg k1
        case measure => have := HK1.out; omega
        case rel => exact ⟨(x4_1), (wrap64 (x14_1 + 1)), (eW), (eW), H', ⟨by have := HK1.out; omega⟩, ⟨(rP HO_12.out)⟩, ⟨(bP BK491.out)⟩, ⟨bW⟩⟩
      ·rw [if_neg c17] at H
       exact absurd H (by simp)
     ·rw [if_neg c16] at H
      exact absurd H (by simp)
    ·rw [if_neg c15] at H
     have c15b0 : decide (x14_1 < (t501.length : Int)) = false := decide_eq_false c15
     clear c15
     simp only [Option.some.injEq, Prod.mk.injEq] at H
     obtain ⟨rfl, rfl⟩ := H
     go_wp2
     go_ret2
     exact ⟨eW, bW⟩
 ·replace c3 := Bool.eq_false_iff.mpr c3
  subst c3
  have H1 : (some (0, 1)) = some (r1, r2) := by rw [if_neg (show ¬ (false = true) by decide)] at H; exact H
  clear H
  have H := H1
  clear H1
  simp only [Option.some.injEq, Prod.mk.injEq] at H
  obtain ⟨rfl, rfl⟩ := H
  go_enter Try.func26, Try.ntmps26
  go_wp2_with (first | ((with_reducible refine gate_dst (N := 1) rfl ?_); refine boxS (N := 1) (cs := #[.int .i64 a0_0, .int .i64 a0_1, .int .i64 a0_2, .slice A0_3 l0_3.length c0_3]) (t := 38) ?_; intro gb491 hg w21 hbox hb; have n0_ := Aside0.mk (below_step (bW) hb); have n1_ := Aside0.mk (hbox); have n2_ := geW (w := w) hg; have n3_ := geW (w := w) hg; clear HB; have HB := n0_; have BK491 := n1_; have GW491 := n2_; have GE491 := n3_; clear n0_ n1_ n2_ n3_; clear hb hbox hg; obtain ⟨hcz22_0, hcz22_1, hcz22_2, hcz22_3⟩ := cells4 BK491.out; obtain ⟨hfz22_0, hfz22_1, hfz22_2, hfz22_3⟩ := frz4 BK491.out) | ((with_reducible refine gate_callee (f := 19) rfl ?_); refine goesS (some 8) Try.func19 #[.agg #[.int .i64 a0_0, .int .i64 a0_1, .int .i64 a0_2, .slice A0_3 l0_3.length c0_3]] ?_; (with_reducible refine (impl_IsAutomaton.calls a0_0 a0_1 a0_2 _ _ l0_3 false _ ?side1 ?side2 A2.out).mono ?_); (case side1 => exact cP (Kd.C_below HR0_3.out HB.out)); (case side2 => exact HC0_3.out); rintro e w23 ⟨rfl, hb⟩; refine ⟨_, rfl, ?_⟩; have n0_ := Aside0.mk (blkB BK491.out hb); have n1_ := Aside0.mk (below_step (bW) hb); clear BK491; clear HB; have BK491 := n0_; have HB := n1_; clear n0_ n1_; (try clear hb); (try clear hb2); (try clear hk); (try clear hi)))
  go_ret2
  exact ⟨eW, bW⟩

/-! ### laws_FnExactUsefulStates: function 7 -/
def laws_FnExactUsefulStates.j0 : Nat → Bool → Int → Int → Int → List (List Int) → Int → Int → Int → List (List Int) → Option (Bool)
 | 0, _, _, _, _, _, _, _, _, _ => none
 | k + 1, x34, x507000, x507001, x507002, x507003, x523000, x523001, x523002, x523003 => if x34 = true then (some false) else ((laws_toAutomaton.f k x507000 x507001 x507002 x507003).bind fun bt525 => ((laws_eqAutomaton.f k x523000 x523001 x523002 x523003 bt525.1 bt525.2.1 bt525.2.2.1 bt525.2.2.2).bind fun t531 => (if t531 = true then (some true) else (some false))))
def laws_FnExactUsefulStates.f (k : Nat) (a0_0 : Int) (a0_1 : Int) (a0_2 : Int) (l0_3 : List (List Int)) : Option (Bool) := (laws_szAutomaton.f k a0_0 a0_1 a0_2 l0_3 1048576).bind fun t507 => (if t507 < 0 then (some true) else ((laws_toAutomaton.f k a0_0 a0_1 a0_2 l0_3).bind fun bt508 => ((spec_UsefulStates.f k bt508.1 bt508.2.1 bt508.2.2.1 bt508.2.2.2).bind fun bt514 => ((laws_toAutomaton.f k a0_0 a0_1 a0_2 l0_3).bind fun bt516 => ((impl_UsefulStates.f k bt516.1 bt516.2.1 bt516.2.2.1 bt516.2.2.2).bind fun bt523 => (if bt523.1 = bt514.1 then (laws_FnExactUsefulStates.j0 k (bt523.2 != bt514.2) a0_0 a0_1 a0_2 l0_3 bt516.1 bt516.2.1 bt516.2.2.1 bt516.2.2.2) else (laws_FnExactUsefulStates.j0 k true a0_0 a0_1 a0_2 l0_3 bt516.1 bt516.2.1 bt516.2.2.1 bt516.2.2.2)))))))
theorem laws_FnExactUsefulStates.mono_l : ∀ k, (∀ y0 y1 y2 y3 y4 y5 y6 y7 y8, LeO (laws_FnExactUsefulStates.j0 k y0 y1 y2 y3 y4 y5 y6 y7 y8) (laws_FnExactUsefulStates.j0 (k + 1) y0 y1 y2 y3 y4 y5 y6 y7 y8))
 | 0 => fun _ _ _ _ _ _ _ _ _ r h => by simp [laws_FnExactUsefulStates.j0] at h
 | k + 1 => by
  have ih0 := laws_FnExactUsefulStates.mono_l k
  ·intro y0 y1 y2 y3 y4 y5 y6 y7 y8
   unfold laws_FnExactUsefulStates.j0
   repeat' first
   | (with_reducible exact ih0 _ _ _ _ _ _ _ _ _)
   | (with_reducible exact impl_UsefulStates.mono _ _ _ _ _)
   | (with_reducible exact laws_eqAutomaton.mono _ _ _ _ _ _ _ _ _)
   | (with_reducible exact laws_szAutomaton.mono _ _ _ _ _ _)
   | (with_reducible exact laws_toAutomaton.mono _ _ _ _ _)
   | (with_reducible exact spec_UsefulStates.mono _ _ _ _ _)
   | (with_reducible exact LeO.refl _)
   | (with_reducible exact LeO.none _)
   | (with_reducible refine LeO.ite ?_ ?_)
   | (with_reducible refine LeO.bind ?_ (fun _ => ?_))
   | exact ih0 _ _ _ _ _ _ _ _ _
   | exact impl_UsefulStates.mono _ _ _ _ _
   | exact laws_eqAutomaton.mono _ _ _ _ _ _ _ _ _
   | exact laws_szAutomaton.mono _ _ _ _ _ _
   | exact laws_toAutomaton.mono _ _ _ _ _
   | exact spec_UsefulStates.mono _ _ _ _ _
   | exact LeO.none _
   | refine LeO.ite ?_ ?_
   | refine LeO.bind ?_ (fun _ => ?_)
theorem laws_FnExactUsefulStates.mono : ∀ a0 a1 a2 a3 k, LeO (laws_FnExactUsefulStates.f k a0 a1 a2 a3) (laws_FnExactUsefulStates.f (k + 1) a0 a1 a2 a3) := by
 intro a0 a1 a2 a3 k
 have ih0 := laws_FnExactUsefulStates.mono_l k
 unfold laws_FnExactUsefulStates.f
 repeat' first
   | (with_reducible exact ih0 _ _ _ _ _ _ _ _ _)
   | (with_reducible exact impl_UsefulStates.mono _ _ _ _ _)
   | (with_reducible exact laws_eqAutomaton.mono _ _ _ _ _ _ _ _ _)
   | (with_reducible exact laws_szAutomaton.mono _ _ _ _ _ _)
   | (with_reducible exact laws_toAutomaton.mono _ _ _ _ _)
   | (with_reducible exact spec_UsefulStates.mono _ _ _ _ _)
   | (with_reducible exact LeO.refl _)
   | (with_reducible exact LeO.none _)
   | (with_reducible refine LeO.ite ?_ ?_)
   | (with_reducible refine LeO.bind ?_ (fun _ => ?_))
   | exact ih0 _ _ _ _ _ _ _ _ _
   | exact impl_UsefulStates.mono _ _ _ _ _
   | exact laws_eqAutomaton.mono _ _ _ _ _ _ _ _ _
   | exact laws_szAutomaton.mono _ _ _ _ _ _
   | exact laws_toAutomaton.mono _ _ _ _ _
   | exact spec_UsefulStates.mono _ _ _ _ _
   | exact LeO.none _
   | refine LeO.ite ?_ ?_
   | refine LeO.bind ?_ (fun _ => ?_)
set_option maxHeartbeats 8000000 in
set_option maxRecDepth 100000 in
theorem laws_FnExactUsefulStates.calls (k : Nat) (a0_0 : Int) (a0_1 : Int) (a0_2 : Int) (A0_3 : Option Addr) (c0_3 : Nat) (l0_3 : List (List Int)) (r : Bool) (w : World) (hr0_3 : Kd.C (Kd.slice 2 (Kd.int .i64)) w A0_3 l0_3.length l0_3) (hc0_3 : l0_3.length ≤ c0_3) (h : laws_FnExactUsefulStates.f k a0_0 a0_1 a0_2 l0_3 = some r) (hT_ : r = true) :
  Calls Try.prog 7 #[.agg #[.int .i64 a0_0, .int .i64 a0_1, .int .i64 a0_2, .slice A0_3 l0_3.length c0_3]] w fun e w' => e = .returned (.bool r) ∧ Below w.heap.size w w' := by
 have HT_ := Aside0.mk hT_
 clear hT_
 have hu35 := Try.underlying35
 have hu38 := Try.underlying38
 have HR0_3 := Aside0.mk hr0_3
 have HC0_3 := Aside0.mk hc0_3
 clear hr0_3 hc0_3
 have HB := Aside0.mk (Below.refl w.heap.size w)
 have H : ((laws_szAutomaton.f k a0_0 a0_1 a0_2 l0_3 1048576).bind fun t507 => (if t507 < 0 then (some true) else ((laws_toAutomaton.f k a0_0 a0_1 a0_2 l0_3).bind fun bt508 => ((spec_UsefulStates.f k bt508.1 bt508.2.1 bt508.2.2.1 bt508.2.2.2).bind fun bt514 => ((laws_toAutomaton.f k a0_0 a0_1 a0_2 l0_3).bind fun bt516 => ((impl_UsefulStates.f k bt516.1 bt516.2.1 bt516.2.2.1 bt516.2.2.2).bind fun bt523 => (if bt523.1 = bt514.1 then (laws_FnExactUsefulStates.j0 k (bt523.2 != bt514.2) a0_0 a0_1 a0_2 l0_3 bt516.1 bt516.2.1 bt516.2.2.1 bt516.2.2.2) else (laws_FnExactUsefulStates.j0 k true a0_0 a0_1 a0_2 l0_3 bt516.1 bt516.2.1 bt516.2.2.1 bt516.2.2.2)))))))) = some r := h
 clear h
 replace H := Option.bind_eq_some_iff.mp H
 obtain ⟨t507, A20, H⟩ := H
 replace H : (if t507 < 0 then (some true) else ((laws_toAutomaton.f k a0_0 a0_1 a0_2 l0_3).bind fun bt508 => ((spec_UsefulStates.f k bt508.1 bt508.2.1 bt508.2.2.1 bt508.2.2.2).bind fun bt514 => ((laws_toAutomaton.f k a0_0 a0_1 a0_2 l0_3).bind fun bt516 => ((impl_UsefulStates.f k bt516.1 bt516.2.1 bt516.2.2.1 bt516.2.2.2).bind fun bt523 => (if bt523.1 = bt514.1 then (laws_FnExactUsefulStates.j0 k (bt523.2 != bt514.2) a0_0 a0_1 a0_2 l0_3 bt516.1 bt516.2.1 bt516.2.2.1 bt516.2.2.2) else (laws_FnExactUsefulStates.j0 k true a0_0 a0_1 a0_2 l0_3 bt516.1 bt516.2.1 bt516.2.2.1 bt516.2.2.2))))))) = some r := H
 have A2 := Aside0.mk A20
 clear A20
 by_cases c3 : t507 < 0
 ·rw [if_pos c3] at H
  have c3b0 : decide (t507 < 0) = true := decide_eq_true c3
  clear c3
  obtain rfl := Option.some.inj H
  go_enter Try.func7, Try.ntmps7
  go_wp2_with (first | ((with_reducible refine gate_dst (N := 1) rfl ?_); refine boxS (N := 1) (cs := #[.int .i64 a0_0, .int .i64 a0_1, .int .i64 a0_2, .slice A0_3 l0_3.length c0_3]) (t := 35) ?_; intro gb506 hg w4 hbox hb; have n0_ := Aside0.mk (below_step (bW) hb); have n1_ := Aside0.mk (hbox); have n2_ := geW (w := w) hg; have n3_ := geW (w := w) hg; clear HB; have HB := n0_; have BK506 := n1_; have GW506 := n2_; have GE506 := n3_; clear n0_ n1_ n2_ n3_; clear hb hbox hg; obtain ⟨hcz5_0, hcz5_1, hcz5_2, hcz5_3⟩ := cells4 BK506.out; obtain ⟨hfz5_0, hfz5_1, hfz5_2, hfz5_3⟩ := frz4 BK506.out) | ((with_reducible refine gate_callee (f := 16) rfl ?_); refine goesS (some 11) Try.func16 #[.agg #[.int .i64 a0_0, .int .i64 a0_1, .int .i64 a0_2, .slice A0_3 l0_3.length c0_3], .int .i64 1048576] ?_; (with_reducible refine (laws_szAutomaton.calls k a0_0 a0_1 a0_2 _ _ l0_3 1048576 t507 _ ?side1 ?side2 A2.out).mono ?_); (case side1 => exact cP (Kd.C_below HR0_3.out HB.out)); (case side2 => exact HC0_3.out); rintro e w6 ⟨rfl, hb⟩; refine ⟨_, rfl, ?_⟩; have n0_ := Aside0.mk (blkB BK506.out hb); have n1_ := Aside0.mk (below_step (bW) hb); clear BK506; clear HB; have BK506 := n0_; have HB := n1_; clear n0_ n1_; (try clear hb); (try clear hb2); (try clear hk); (try clear hi)))
  go_ret
  exact ⟨eW, bW⟩
 ·rw [if_neg c3] at H
  have c3b0 : decide (t507 < 0) = false := decide_eq_false c3
  clear c3
  replace H := Option.bind_eq_some_iff.mp H
  obtain ⟨⟨t508, t509, t510, t511⟩, A70, H⟩ := H
  replace H : ((spec_UsefulStates.f k t508 t509 t510 t511).bind fun bt514 => ((laws_toAutomaton.f k a0_0 a0_1 a0_2 l0_3).bind fun bt516 => ((impl_UsefulStates.f k bt516.1 bt516.2.1 bt516.2.2.1 bt516.2.2.2).bind fun bt523 => (if bt523.1 = bt514.1 then (laws_FnExactUsefulStates.j0 k (bt523.2 != bt514.2) a0_0 a0_1 a0_2 l0_3 bt516.1 bt516.2.1 bt516.2.2.1 bt516.2.2.2) else (laws_FnExactUsefulStates.j0 k true a0_0 a0_1 a0_2 l0_3 bt516.1 bt516.2.1 bt516.2.2.1 bt516.2.2.2))))) = some r := H
  have A7 := Aside0.mk A70
  clear A70
  replace H := Option.bind_eq_some_iff.mp H
  obtain ⟨⟨t514, t515⟩, A80, H⟩ := H
  replace H : ((laws_toAutomaton.f k a0_0 a0_1 a0_2 l0_3).bind fun bt516 => ((impl_UsefulStates.f k bt516.1 bt516.2.1 bt516.2.2.1 bt516.2.2.2).bind fun bt523 => (if bt523.1 = t514 then (laws_FnExactUsefulStates.j0 k (bt523.2 != t515) a0_0 a0_1 a0_2 l0_3 bt516.1 bt516.2.1 bt516.2.2.1 bt516.2.2.2) else (laws_FnExactUsefulStates.j0 k true a0_0 a0_1 a0_2 l0_3 bt516.1 bt516.2.1 bt516.2.2.1 bt516.2.2.2)))) = some r := H
  have A8 := Aside0.mk A80
  clear A80
  replace H := Option.bind_eq_some_iff.mp H
  obtain ⟨⟨t516, t517, t518, t519⟩, A90, H⟩ := H
  replace H : ((impl_UsefulStates.f k t516 t517 t518 t519).bind fun bt523 => (if bt523.1 = t514 then (laws_FnExactUsefulStates.j0 k (bt523.2 != t515) a0_0 a0_1 a0_2 l0_3 t516 t517 t518 t519) else (laws_FnExactUsefulStates.j0 k true a0_0 a0_1 a0_2 l0_3 t516 t517 t518 t519))) = some r := H
  have A9 := Aside0.mk A90
  clear A90
  replace H := Option.bind_eq_some_iff.mp H
  obtain ⟨⟨t523, t524⟩, A100, H⟩ := H
  replace H : (if t523 = t514 then (laws_FnExactUsefulStates.j0 k (t524 != t515) a0_0 a0_1 a0_2 l0_3 t516 t517 t518 t519) else (laws_FnExactUsefulStates.j0 k true a0_0 a0_1 a0_2 l0_3 t516 t517 t518 t519)) = some r := H
  have A10 := Aside0.mk A100
  clear A100
  have HC11 := Aside0.mk H
  clear H
  go_enter Try.func7, Try.ntmps7
  go_upto_region 8 with (first | ((with_reducible refine gate_dst (N := 1) rfl ?_); refine boxS (N := 1) (cs := #[.int .i64 a0_0, .int .i64 a0_1, .int .i64 a0_2, .slice A0_3 l0_3.length c0_3]) (t := 35) ?_; intro gb506 hg w12 hbox hb; have n0_ := Aside0.mk (below_step (bW) hb); have n1_ := Aside0.mk (hbox); have n2_ := geW (w := w) hg; have n3_ := geW (w := w) hg; clear HB; have HB := n0_; have BK506 := n1_; have GW506 := n2_; have GE506 := n3_; clear n0_ n1_ n2_ n3_; clear hb hbox hg; obtain ⟨hcz13_0, hcz13_1, hcz13_2, hcz13_3⟩ := cells4 BK506.out; obtain ⟨hfz13_0, hfz13_1, hfz13_2, hfz13_3⟩ := frz4 BK506.out) | ((with_reducible refine gate_callee (f := 16) rfl ?_); refine goesS (some 11) Try.func16 #[.agg #[.int .i64 a0_0, .int .i64 a0_1, .int .i64 a0_2, .slice A0_3 l0_3.length c0_3], .int .i64 1048576] ?_; (with_reducible refine (laws_szAutomaton.calls k a0_0 a0_1 a0_2 _ _ l0_3 1048576 t507 _ ?side1 ?side2 A2.out).mono ?_); (case side1 => exact cP (Kd.C_below HR0_3.out HB.out)); (case side2 => exact HC0_3.out); rintro e w14 ⟨rfl, hb⟩; refine ⟨_, rfl, ?_⟩; have n0_ := Aside0.mk (blkB BK506.out hb); have n1_ := Aside0.mk (below_step (bW) hb); clear BK506; clear HB; have BK506 := n0_; have HB := n1_; clear n0_ n1_; (try clear hb); (try clear hb2); (try clear hk); (try clear hi); obtain ⟨hcz15_0, hcz15_1, hcz15_2, hcz15_3⟩ := cells4 BK506.out; obtain ⟨hfz15_0, hfz15_1, hfz15_2, hfz15_3⟩ := frz4 BK506.out) | ((with_reducible refine gate_callee (f := 18) rfl ?_); refine goesS (some 16) Try.func18 #[.agg #[.int .i64 a0_0, .int .i64 a0_1, .int .i64 a0_2, .slice A0_3 l0_3.length c0_3]] ?_; (with_reducible refine (laws_toAutomaton.calls k a0_0 a0_1 a0_2 _ _ l0_3 t508 t509 t510 t511 _ ?side1 ?side2 A7.out).mono ?_); (case side1 => exact cP (Kd.C_below HR0_3.out HB.out)); (case side2 => exact HC0_3.out); rintro e w16 ⟨v512, rfl, ho0, hb⟩; refine ⟨_, rfl, ?_⟩; have n0_ := Aside0.mk (Kd.S_lower ho0 (below_size (bW))); have n1_ := Aside0.mk (blkB BK506.out hb); have n2_ := Aside0.mk (below_step (bW) hb); clear BK506; clear HB; have HO513 := n0_; have BK506 := n1_; have HB := n2_; clear n0_ n1_ n2_; (try clear hb); (try clear hb2); (try clear hk); (try clear hi); (try clear ho0); obtain ⟨Ao17, co17, eo17⟩ := Kd.S_slice HO513.out; subst eo17) | ((with_reducible refine gate_callee (f := 25) rfl ?_); refine goesS (some 17) Try.func25 #[.agg #[.int .i64 t508, .int .i64 t509, .int .i64 t510, .slice Ao17 t511.length co17]] ?_; (with_reducible refine (spec_UsefulStates.calls k t508 t509 t510 _ _ t511 t514 t515 _ ?side1 ?side2 A8.out).mono ?_); (case side1 => exact cP ((Kd.S_reads' HO513.out).2.2)); (case side2 => exact (Kd.S_reads' HO513.out).2.1); rintro e w18 ⟨rfl, hb⟩; refine ⟨_, rfl, ?_⟩; have n0_ := Aside0.mk (Kd.S_below (sP HO513.out) hb); have n1_ := Aside0.mk (blkB BK506.out hb); have n2_ := Aside0.mk (below_step (bW) hb); clear HO513; clear BK506; clear HB; have HO513 := n0_; have BK506 := n1_; have HB := n2_; clear n0_ n1_ n2_; (try clear hb); (try clear hb2); (try clear hk); (try clear hi); obtain ⟨hcz19_0, hcz19_1, hcz19_2, hcz19_3⟩ := cells4 BK506.out; obtain ⟨hfz19_0, hfz19_1, hfz19_2, hfz19_3⟩ := frz4 BK506.out) | ((with_reducible refine gate_callee (f := 18) rfl ?_); refine goesS (some 21) Try.func18 #[.agg #[.int .i64 a0_0, .int .i64 a0_1, .int .i64 a0_2, .slice A0_3 l0_3.length c0_3]] ?_; (with_reducible refine (laws_toAutomaton.calls k a0_0 a0_1 a0_2 _ _ l0_3 t516 t517 t518 t519 _ ?side1 ?side2 A9.out).mono ?_); (case side1 => exact cP (Kd.C_below HR0_3.out HB.out)); (case side2 => exact HC0_3.out); rintro e w20 ⟨v520, rfl, ho0, hb⟩; refine ⟨_, rfl, ?_⟩; have n0_ := Aside0.mk (Kd.S_elder' (sP HO513.out) (Kd.S_base ho0) hb); have n1_ := Aside0.mk (Kd.S_lower (Kd.S_new' ho0 (Kd.S_lt (sP HO513.out))) (below_size (bW))); have n2_ := Aside0.mk (blkB BK506.out hb); have n3_ := Aside0.mk (below_step (bW) hb); clear HO513; clear BK506; clear HB; have HO513 := n0_; have HO521 := n1_; have BK506 := n2_; have HB := n3_; clear n0_ n1_ n2_ n3_; (try clear hb); (try clear hb2); (try clear hk); (try clear hi); (try clear ho0)) | ((with_reducible refine gate_dst (N := 6) rfl ?_); refine boxS (N := 6) (cs := #[.int .i64 0, .int .i64 0, .int .i64 0, .slice none 0 0]) (t := 38) ?_; intro gb522 hg w21 hbox hb; have n0_ := Aside0.mk (Kd.S_below (sP HO513.out) hb); have n1_ := Aside0.mk (Kd.S_below (sP HO521.out) hb); have n2_ := Aside0.mk (blkB BK506.out hb); have n3_ := Aside0.mk (below_step (bW) hb); have n4_ := Aside0.mk (hbox); have n5_ := geW (w := w) hg; have n6_ := geW (w := w) hg; have n7_ := Aside0.mk ((by rw [hg]; exact Nat.ne_of_lt (blk_lt (g := gb506) (o := .cells #[.int .i64 a0_0, .int .i64 a0_1, .int .i64 a0_2, .slice A0_3 l0_3.length c0_3] 35 (0, 0)) (bP BK506.out)) : gb506 ≠ gb522)); have n8_ := Aside0.mk ((by rw [hg]; exact Nat.ne_of_gt (blk_lt (g := gb506) (o := .cells #[.int .i64 a0_0, .int .i64 a0_1, .int .i64 a0_2, .slice A0_3 l0_3.length c0_3] 35 (0, 0)) (bP BK506.out)) : gb522 ≠ gb506)); clear HO513; clear HO521; clear BK506; clear HB; have HO513 := n0_; have HO521 := n1_; have BK506 := n2_; have HB := n3_; have BK522 := n4_; have GW522 := n5_; have GE522 := n6_; have NB506_522 := n7_; have NB522_506 := n8_; clear n0_ n1_ n2_ n3_ n4_ n5_ n6_ n7_ n8_; clear hb hbox hg; have hnb22 := NB522_506.out; have hnc22 := NB506_522.out; obtain ⟨hcz23_0, hcz23_1, hcz23_2, hcz23_3⟩ := cells4 BK522.out; obtain ⟨hfz23_0, hfz23_1, hfz23_2, hfz23_3⟩ := frz4 BK522.out; obtain ⟨Ao24, co24, eo24⟩ := Kd.S_slice HO521.out; subst eo24) | ((with_reducible refine gate_callee (f := 26) rfl ?_); refine goesS (some 24) Try.func26 #[.agg #[.int .i64 t516, .int .i64 t517, .int .i64 t518, .slice Ao24 t519.length co24]] ?_; (with_reducible refine (impl_UsefulStates.calls k t516 t517 t518 _ _ t519 t523 t524 _ ?side1 ?side2 A10.out).mono ?_); (case side1 => refine (Kd.S_reads' (e := 22) (base := w.heap.size) (ok := fun k_ => (True ∧ some k_ ≠ (.slice Ao17 t511.length co17 : Value).ownBlock)) (n := t519.length) (c := co24) ?_).2.2; exact (by (with_reducible repeat (first | apply Kd.S_alloc | apply Kd.S_drewN | apply Kd.S_drew)); exact (Kd.S_mono (Kd.S_far (p := ⟨gb522, 3, none⟩) (Kd.S_far (p := ⟨gb522, 2, none⟩) (Kd.S_far (p := ⟨gb522, 1, none⟩) (Kd.S_far (p := ⟨gb522, 0, none⟩) (Kd.S_types HO521.out BK522.out (by decide)) (fun _ hk => hk.2) (.int .i64 t516)) (fun _ hk => hk.2) (.int .i64 t517)) (fun _ hk => hk.2) (.int .i64 t518)) (fun _ hk => hk.2) (.slice Ao24 t519.length co24)) (fun _ h_ => h_.1)))); (case side2 => exact (Kd.S_reads' HO521.out).2.1); rintro e w25 ⟨rfl, hb⟩; refine ⟨_, rfl, ?_⟩; have n0_ := Aside0.mk (Kd.S_below (by (with_reducible repeat (first | apply Kd.S_alloc | apply Kd.S_drewN | apply Kd.S_drew)); exact (Kd.S_mono (Kd.S_far (p := ⟨gb522, 3, none⟩) (Kd.S_far (p := ⟨gb522, 2, none⟩) (Kd.S_far (p := ⟨gb522, 1, none⟩) (Kd.S_far (p := ⟨gb522, 0, none⟩) (Kd.S_types HO513.out BK522.out (by decide)) (fun _ hk => hk.2) (.int .i64 t516)) (fun _ hk => hk.2) (.int .i64 t517)) (fun _ hk => hk.2) (.int .i64 t518)) (fun _ hk => hk.2) (.slice Ao24 t519.length co24)) (fun _ h_ => h_.1))) hb); have n1_ := Aside0.mk (Kd.S_below (by (with_reducible repeat (first | apply Kd.S_alloc | apply Kd.S_drewN | apply Kd.S_drew)); exact (Kd.S_mono (Kd.S_far (p := ⟨gb522, 3, none⟩) (Kd.S_far (p := ⟨gb522, 2, none⟩) (Kd.S_far (p := ⟨gb522, 1, none⟩) (Kd.S_far (p := ⟨gb522, 0, none⟩) (Kd.S_types HO521.out BK522.out (by decide)) (fun _ hk => hk.2) (.int .i64 t516)) (fun _ hk => hk.2) (.int .i64 t517)) (fun _ hk => hk.2) (.int .i64 t518)) (fun _ hk => hk.2) (.slice Ao24 t519.length co24)) (fun _ h_ => h_.1))) hb); have n2_ := Aside0.mk (blk_below (g := gb506) (o := .cells #[.int .i64 a0_0, .int .i64 a0_1, .int .i64 a0_2, .slice A0_3 l0_3.length c0_3] 35 (0, 0)) (by (with_reducible repeat (first | refine blk_drewN ?_ _ | refine blk_drew ?_ | refine blk_alloc ?_ _)); refine blk_far ?_ NB506_522.out _; (with_reducible repeat (first | refine blk_drewN ?_ _ | refine blk_drew ?_ | refine blk_alloc ?_ _)); refine blk_far ?_ NB506_522.out _; (with_reducible repeat (first | refine blk_drewN ?_ _ | refine blk_drew ?_ | refine blk_alloc ?_ _)); refine blk_far ?_ NB506_522.out _; (with_reducible repeat (first | refine blk_drewN ?_ _ | refine blk_drew ?_ | refine blk_alloc ?_ _)); refine blk_far ?_ NB506_522.out _; exact bP BK506.out) hb); have n3_ := Aside0.mk (blk_below (g := gb522) (o := .cells #[.int .i64 t516, .int .i64 t517, .int .i64 t518, .slice Ao24 t519.length co24] 38 (0, 0)) (by (with_reducible repeat (first | refine blk_drewN ?_ _ | refine blk_drew ?_ | refine blk_alloc ?_ _)); refine blk_put (cs := #[.int .i64 t516, .int .i64 t517, .int .i64 t518, .slice none 0 0]) ?_ 3 _ rfl; (with_reducible repeat (first | refine blk_drewN ?_ _ | refine blk_drew ?_ | refine blk_alloc ?_ _)); refine blk_put (cs := #[.int .i64 t516, .int .i64 t517, .int .i64 0, .slice none 0 0]) ?_ 2 _ rfl; (with_reducible repeat (first | refine blk_drewN ?_ _ | refine blk_drew ?_ | refine blk_alloc ?_ _)); refine blk_put (cs := #[.int .i64 t516, .int .i64 0, .int .i64 0, .slice none 0 0]) ?_ 1 _ rfl; (with_reducible repeat (first | refine blk_drewN ?_ _ | refine blk_drew ?_ | refine blk_alloc ?_ _)); refine blk_put (cs := #[.int .i64 0, .int .i64 0, .int .i64 0, .slice none 0 0]) ?_ 0 _ rfl; exact bP BK522.out) hb); have n4_ := Aside0.mk (below_step (bW) hb); clear HO513; clear HO521; clear BK506; clear BK522; clear HB; have HO513 := n0_; have HO521 := n1_; have BK506 := n2_; have BK522 := n3_; have HB := n4_; clear n0_ n1_ n2_ n3_ n4_; (try clear hb); (try clear hb2); (try clear hk); (try clear hi)))
  (try simp only [Act.put, List.setIfInBounds_toArray, List.set_cons_zero, List.set_cons_succ])
  go_cut [34] (fun v34 wc => ∃ (kq : Nat) (x34_10 : Bool), v34 = .bool x34_10 ∧ Aside0 (laws_FnExactUsefulStates.j0 kq x34_10 a0_0 a0_1 a0_2 l0_3 t516 t517 t518 t519 = some r) ∧ Aside0 (kq ≤ k) ∧ Aside0 (Kd.S (Kd.slice 2 (Kd.int .i64)) 22 wc w.heap.size (fun _ => True) (.slice Ao24 t519.length co24) t519) ∧ Aside0 (wc.heap[gb506]? = some (.cells #[.int .i64 a0_0, .int .i64 a0_1, .int .i64 a0_2, (.slice A0_3 l0_3.length c0_3)] 35 (0, 0))) ∧ Aside0 (wc.heap[gb522]? = some (.cells #[.int .i64 t516, .int .i64 t517, .int .i64 t518, (.slice Ao24 t519.length co24)] 38 (0, 0))) ∧ Aside0 (Below w.heap.size w wc))
  case first =>
   have H := HC11.out
   clear HC11
   by_cases c26 : t523 = t514
   ·rw [if_pos c26] at H
    have c26b0 : (t523 == t514) = true := beq_iff_eq.mpr c26
    have c26b1 : (t523 != t514) = false := bne_eq_false_iff_eq.mpr c26
    clear c26
    (first | rw [c26b0] | (simp only [i64_w, i32_w]; rw [c26b0]) | skip)
    have H' := Aside0.mk H
    clear H
    go_wp2
    go_meet
    case rel => exact ⟨_, ((t524 != t515)), (eW), H', ⟨by first | omega | exact Nat.le_refl _⟩, ⟨by (with_reducible repeat (first | apply Kd.S_alloc | apply Kd.S_drewN | apply Kd.S_drew)); exact Kd.S_mono HO521.out (fun _ hk => trivial)⟩, ⟨(bP BK506.out)⟩, ⟨(bP BK522.out)⟩, ⟨bW⟩⟩
   ·rw [if_neg c26] at H
    have c26b0 : (t523 == t514) = false := beq_eq_false_iff_ne.mpr c26
    have c26b1 : (t523 != t514) = true := bne_iff_ne.mpr c26
    (first | rw [c26b0] | (simp only [i64_w, i32_w]; rw [c26b0]) | skip)
    have H' := Aside0.mk H
    clear H
    go_wp2
    go_meet
    case rel => exact ⟨_, (true), (eW), H', ⟨by first | omega | exact Nat.le_refl _⟩, ⟨by (with_reducible repeat (first | apply Kd.S_alloc | apply Kd.S_drewN | apply Kd.S_drew)); exact Kd.S_mono HO521.out (fun _ hk => trivial)⟩, ⟨(bP BK506.out)⟩, ⟨(bP BK522.out)⟩, ⟨bW⟩⟩
  case rest =>
   clear HC11
   try clear c1
   try clear c2
   try clear p2
   try clear c3
   try clear c3b0
   try clear c7
   try clear c16
   try clear c18
   try clear c22
   try clear c25
   try clear c26
   try clear c26b0
   try clear c26b1
   try clear hcz13_0
   try clear hcz13_1
   try clear hcz13_2
   try clear hcz13_3
   try clear hcz15_0
   try clear hcz15_1
   try clear hcz15_2
   try clear hcz15_3
   try clear hcz19_0
   try clear hcz19_1
   try clear hcz19_2
   try clear hcz19_3
   try clear hcz23_0
   try clear hcz23_1
   try clear hcz23_2
   try clear hcz23_3
   try clear hcz5_0
   try clear hcz5_1
   try clear hcz5_2
   try clear hcz5_3
   try clear hfz13_0
   try clear hfz13_1
   try clear hfz13_2
   try clear hfz13_3
   try clear hfz15_0
   try clear hfz15_1
   try clear hfz15_2
   try clear hfz15_3
   try clear hfz19_0
   try clear hfz19_1
   try clear hfz19_2
   try clear hfz19_3
   try clear hfz23_0
   try clear hfz23_1
   try clear hfz23_2
   try clear hfz23_3
   try clear hfz5_0
   try clear hfz5_1
   try clear hfz5_2
   try clear hfz5_3
   obtain ⟨kq, x34_10, rfl, HA, HJ10, HO_523003, BK506, BK522, HB⟩ := hcut
   cases kq with
   | zero => exact absurd HA.out (by simp [laws_FnExactUsefulStates.j0])
   | succ kj10 =>
    have H := HA.out
    clear HA
    simp only [laws_FnExactUsefulStates.j0] at H
    by_cases c27 : x34_10 = true
    ·subst c27
     have H1 : (some false) = some r := by rw [if_pos rfl] at H; exact H
     clear H
     have H := H1
     clear H1
     exact absurd (Option.some.inj H) (by rw [HT_.out]; decide)
    ·replace c27 := Bool.eq_false_iff.mpr c27
     subst c27
     have H1 : ((laws_toAutomaton.f kj10 a0_0 a0_1 a0_2 l0_3).bind fun bt525 => ((laws_eqAutomaton.f kj10 t516 t517 t518 t519 bt525.1 bt525.2.1 bt525.2.2.1 bt525.2.2.2).bind fun t531 => (if t531 = true then (some true) else (some false)))) = some r := by rw [if_neg (show ¬ (false = true) by decide)] at H; exact H
     clear H
     have H := H1
     clear H1
     replace H := Option.bind_eq_some_iff.mp H
     obtain ⟨⟨t525, t526, t527, t528⟩, A280, H⟩ := H
     replace H : ((laws_eqAutomaton.f kj10 t516 t517 t518 t519 t525 t526 t527 t528).bind fun t531 => (if t531 = true then (some true) else (some false))) = some r := H
     have A28 := Aside0.mk A280
     clear A280
     replace H := Option.bind_eq_some_iff.mp H
     obtain ⟨t531, A290, H⟩ := H
     replace H : (if t531 = true then (some true) else (some false)) = some r := H
     have A29 := Aside0.mk A290
     clear A290
     by_cases c30 : t531 = true
     ·subst c30
      have H1 : (some true) = some r := by rw [if_pos rfl] at H; exact H
      clear H
      have H := H1
      clear H1
      obtain rfl := Option.some.inj H
      try go_wp2
      have n0_ := Aside0.mk (Kd.S_drew HO_523003.out)
      have n1_ := Aside0.mk (blk_drew BK506.out)
      have n2_ := Aside0.mk (blk_drew BK522.out)
      have n3_ := Aside0.mk (below_drew1 HB.out)
      clear HO_523003
      clear BK506
      clear BK522
      clear HB
      have HO_523003 := n0_
      have BK506 := n1_
      have BK522 := n2_
      have HB := n3_
      clear n0_ n1_ n2_ n3_
      refine start_ (n := 5) (S := fun w' => w'.cell? ⟨gb522, 0, none⟩ = some (.int .i64 t516) ∧ w'.cell? ⟨gb522, 1, none⟩ = some (.int .i64 t517) ∧ w'.cell? ⟨gb522, 2, none⟩ = some (.int .i64 t518) ∧ w'.cell? ⟨gb522, 3, none⟩ = some (.slice Ao24 t519.length co24) ∧ w'.cell? ⟨gb506, 0, none⟩ = some (.int .i64 a0_0) ∧ w'.cell? ⟨gb506, 1, none⟩ = some (.int .i64 a0_1) ∧ w'.cell? ⟨gb506, 2, none⟩ = some (.int .i64 a0_2) ∧ w'.cell? ⟨gb506, 3, none⟩ = some (.slice A0_3 l0_3.length c0_3)) (ds := []) #[false, false, false, false, false] (by kernel_rfl) rfl rfl ⟨(blk_cell BK522.out 0).trans rfl, (blk_cell BK522.out 1).trans rfl, (blk_cell BK522.out 2).trans rfl, (blk_cell BK522.out 3).trans rfl, (blk_cell BK506.out 0).trans rfl, (blk_cell BK506.out 1).trans rfl, (blk_cell BK506.out 2).trans rfl, (blk_cell BK506.out 3).trans rfl⟩ (fun hHeld => ?_)
      generalize wc.drew = w31 at HO_523003 BK506 BK522 HB hHeld ⊢
      refine take_ (i := 0) (N := some 35) (v := ?_) (a' := ?_) #[true, false, false, false, false] rfl rfl (by kernel_rfl) (fun _ _ _ h => h) (Or.inl ⟨by rfl, ?_⟩) hHeld ?_ ?_
      rotate_left
      ·rintro w' ⟨s0, s1, s2, s3, s4, s5, s6, s7⟩
       go_simp
       with_reducible rfl
      rotate_left
      ·simp only [Act.put, List.setIfInBounds_toArray, List.set_cons_zero, List.set_cons_succ, i64_w, i32_w]
       rfl
      refine take_ (i := 1) (N := some 36) (v := ?_) (a' := ?_) #[true, true, false, false, false] rfl rfl (by kernel_rfl) (fun _ _ _ h => h) (Or.inl ⟨by rfl, ?_⟩) hHeld ?_ ?_
      rotate_left
      ·rintro w' ⟨s0, s1, s2, s3, s4, s5, s6, s7⟩
       go_simp
       with_reducible rfl
      rotate_left
      ·simp only [Act.put, List.setIfInBounds_toArray, List.set_cons_zero, List.set_cons_succ, i64_w, i32_w]
       rfl
      refine one_ (i := 2) (N := some 37) #[true, true, true, false, false] rfl rfl (by kernel_rfl) (by decide) (fun K hK => ?_)
      refine goes_ Try.func18 (by kernel_rfl) rfl #[.agg #[.int .i64 a0_0, .int .i64 a0_1, .int .i64 a0_2, .slice A0_3 l0_3.length c0_3]] (by rfl) rfl rfl (by (try simp only [List.map_toArray, List.map_cons, List.map_nil]); first | done | rfl | (simp only [List.length_drop, List.length_take]; rfl)) ?_
      with_reducible refine (laws_toAutomaton.calls kj10 a0_0 a0_1 a0_2 _ _ l0_3 t525 t526 t527 t528 _ ?side1 ?side2 A28.out).mono ?_
      (case side1 => exact cP (Kd.C_below HR0_3.out HB.out))
      (case side2 => exact HC0_3.out)
      rintro e w32 ⟨v529, rfl, ho0, hb⟩
      refine ⟨_, rfl, ?_⟩
      have n0_ := Aside0.mk (Kd.S_elder' (sP HO_523003.out) (Kd.S_base ho0) hb)
      have n1_ := Aside0.mk (Kd.S_lower (Kd.S_new' ho0 (Kd.S_lt (sP HO_523003.out))) (below_size (bW)))
      have n2_ := Aside0.mk (blkB BK506.out hb)
      have n3_ := Aside0.mk (blkB BK522.out hb)
      have n4_ := Aside0.mk (below_step (bW) hb)
      clear HO_523003
      clear BK506
      clear BK522
      clear HB
      have HO_523003 := n0_
      have HO530 := n1_
      have BK506 := n2_
      have BK522 := n3_
      have HB := n4_
      clear n0_ n1_ n2_ n3_ n4_
      (try clear hb)
      (try clear hb2)
      (try clear hk)
      (try clear hi)
      (try clear ho0)
      obtain ⟨Ao33, co33, eo33⟩ := Kd.S_slice HO530.out
      (first | subst eo33 | (injection eo33 with f1_ f2_ f3_; have f4_ := f1_.symm; have f5_ := f3_.symm; clear f1_ f2_ f3_; subst f4_; subst f5_))
      refine hK.out _ _ ⟨(blk_cell BK522.out 0).trans rfl, (blk_cell BK522.out 1).trans rfl, (blk_cell BK522.out 2).trans rfl, (blk_cell BK522.out 3).trans rfl, (blk_cell BK506.out 0).trans rfl, (blk_cell BK506.out 1).trans rfl, (blk_cell BK506.out 2).trans rfl, (blk_cell BK506.out 3).trans rfl⟩ (fun hHeld => ?_)
      clear hK K
      refine norm_ (a' := ?_) ?_ ?_
      rotate_left
      ·show Act.put _ (some 37) _ = _
       simp only [Act.put, List.setIfInBounds_toArray, List.set_cons_zero, List.set_cons_succ, i64_w, i32_w]
       rfl
      refine one_ (i := 3) (N := some 38) #[true, true, true, true, false] rfl rfl (by kernel_rfl) (by decide) (fun K hK => ?_)
      refine goes_ Try.func20 (by kernel_rfl) rfl #[.agg #[.int .i64 t516, .int .i64 t517, .int .i64 t518, .slice Ao24 t519.length co24], .agg #[.int .i64 t525, .int .i64 t526, .int .i64 t527, .slice Ao33 t528.length co33]] (by rfl) rfl rfl (by (try simp only [List.map_toArray, List.map_cons, List.map_nil]); first | done | rfl | (simp only [List.length_drop, List.length_take]; rfl)) ?_
      with_reducible refine (laws_eqAutomaton.calls kj10 t516 t517 t518 _ _ t519 t525 t526 t527 _ _ t528 true _ ?side1 ?side2 ?side3 ?side4 A29.out).mono ?_
      (case side1 => exact cP ((Kd.S_reads' HO_523003.out).2.2))
      (case side2 => exact (Kd.S_reads' HO_523003.out).2.1)
      (case side3 => exact cP ((Kd.S_reads' HO530.out).2.2))
      (case side4 => exact (Kd.S_reads' HO530.out).2.1)
      rintro e w34 ⟨rfl, hb⟩
      refine ⟨_, rfl, ?_⟩
      have n0_ := Aside0.mk (Kd.S_below (sP HO_523003.out) hb)
      have n1_ := Aside0.mk (Kd.S_below (sP HO530.out) hb)
      have n2_ := Aside0.mk (blkB BK506.out hb)
      have n3_ := Aside0.mk (blkB BK522.out hb)
      have n4_ := Aside0.mk (below_step (bW) hb)
      clear HO_523003
      clear HO530
      clear BK506
      clear BK522
      clear HB
      have HO_523003 := n0_
      have HO530 := n1_
      have BK506 := n2_
      have BK522 := n3_
      have HB := n4_
      clear n0_ n1_ n2_ n3_ n4_
      (try clear hb)
      (try clear hb2)
      (try clear hk)
      (try clear hi)
      refine hK.out _ _ ⟨(blk_cell BK522.out 0).trans rfl, (blk_cell BK522.out 1).trans rfl, (blk_cell BK522.out 2).trans rfl, (blk_cell BK522.out 3).trans rfl, (blk_cell BK506.out 0).trans rfl, (blk_cell BK506.out 1).trans rfl, (blk_cell BK506.out 2).trans rfl, (blk_cell BK506.out 3).trans rfl⟩ (fun hHeld => ?_)
      clear hK K
      refine norm_ (a' := ?_) ?_ ?_
      rotate_left
      ·show Act.put _ (some 38) _ = _
       simp only [Act.put, List.setIfInBounds_toArray, List.set_cons_zero, List.set_cons_succ, i64_w, i32_w]
       rfl
      refine pure_ (i := 4) (N := some 39) (v := ?_) (a' := ?_) #[true, true, true, true, true] rfl rfl (by kernel_rfl) (fun _ _ _ h => h) (Or.inl ⟨by rfl, ?_⟩) ?_ ?_
      rotate_left
      ·intro w'
       go_simp
       with_reducible rfl
      rotate_left
      ·simp only [Act.put, List.setIfInBounds_toArray, List.set_cons_zero, List.set_cons_succ, i64_w, i32_w]
       rfl
      refine done_ (by kernel_rfl) ?_
      try go_wp2
      go_ret
      exact ⟨eW, bW⟩
     ·replace c30 := Bool.eq_false_iff.mpr c30
      subst c30
      have H1 : (some false) = some r := by rw [if_neg (show ¬ (false = true) by decide)] at H; exact H
      clear H
      have H := H1
      clear H1
      exact absurd (Option.some.inj H) (by rw [HT_.out]; decide)

end Go.Proofs.Ytcibmpomidhgiaa.P
end M0
section M1
namespace Go.Proofs.Ytcibmpomidhgiaa.Op
open Go.RowKit Go.Proofs.YtcibmpomidhgiaaW.PrintWords Go.Proofs.YtcibmpomidhgiaaW.PrintLast Go.Proofs.YtcibmpomidhgiaaW.PrintMore
/-- What is read at type t lies in memory as kind d says. -/
def Opens {α : Type} (P : Program) (t : TypeId) (d : Kd α) (ok : α → Prop) : Prop :=
  ∀ (H : Type) (enc : TypeId × Value → H) (w : World) (base : Nat) (held : Bool) (fuel : Nat) (cs : List Value) (x : DataW H × List MemPlace),
    DataW.trod enc P w base (fun _ => true) held fuel t cs = some x → ∃ a, d.K w a cs ∧ ok a
theorem opens_int {P : Program} {t : TypeId} {k : IntKind} (ht : P.underlying t = some (.int k)) : Opens P t (Kd.int k) (fun n => (Lit.int k n).wf = true) := by
  intro H enc w base held fuel cs x h
  obtain ⟨n, rfl, _, hw⟩ := DataW.trod_int ht h
  exact ⟨n, rfl, hw⟩
theorem opens_slice {α : Type} {P : Program} {t e : TypeId} {d : Kd α} {ok : α → Prop} (ht : P.underlying t = some (.slice e)) (hc : P.cellsOf e = d.sz) (he : Opens P e d ok) :
    Opens P t (Kd.slice e d) (fun xs => xs.length ≤ maxLen ∧ ∀ x ∈ xs, ok x) := by
  intro H enc w base held fuel cs x h
  rcases DataW.trod_slice ht h with ⟨rfl, _⟩ | ⟨a, len, cap, elems, rest, n, _, rfl, _, hb, hl, hm, hlen, hel, _, _⟩
  · exact ⟨[], ⟨none, 0, rfl, Nat.le_refl _, rfl, by simp, fun h => absurd h (by simp)⟩, by simp, by simp⟩
  · have each : ∀ i, i < len → ∃ y : α × List Value, y.2.length = d.sz ∧ d.K w y.1 y.2 ∧ ok y.1 ∧ ∀ j u, y.2[j]? = some u → w.cell? (a.add (i * d.sz + j)) = some u := by
      intro i hi
      have h1 := hel i hi
      rw [List.getElem?_eq_getElem (by omega), Option.bind_eq_some_iff] at h1
      obtain ⟨cs', h2, h3⟩ := h1
      obtain ⟨y, hk, ho⟩ := he _ _ _ _ _ _ _ _ h3
      obtain ⟨_, h5, h6⟩ := World.cells?_some h2
      refine ⟨(y, cs'), h5.trans hc, hk, ho, fun j u hj => ?_⟩
      have hjl : j < P.cellsOf e := by rw [← h5]; exact (List.getElem?_eq_some_iff.1 hj).1
      have h7 := h6 j hjl
      rw [hj, hc] at h7
      rw [← Addr.add_add]
      exact h7
    have hy := fun i : Fin len => Classical.choose_spec (each i.1 i.2)
    generalize hY : (fun i : Fin len => Classical.choose (each i.1 i.2)) = y at hy
    have hy' : ∀ i : Fin len, (y i).2.length = d.sz ∧ d.K w (y i).1 (y i).2 ∧ ok (y i).1 ∧ ∀ j u, (y i).2[j]? = some u → w.cell? (a.add (i.1 * d.sz + j)) = some u := by
      intro i; rw [← hY]; exact hy i
    clear hy hY
    have hln : (List.ofFn fun i => (y i).1).length = len := by simp
    refine ⟨List.ofFn fun i => (y i).1, ⟨some a, cap, by rw [hln], by rw [hln]; exact hl, ?_⟩, by rw [hln]; omega, ?_⟩
    · refine ⟨rfl, by rw [hln]; unfold maxLen at hm; omega, fun _ => ⟨a, rfl, fun j p hj => ?_⟩⟩
      have hjl : j < len := by rw [← hln]; exact (List.getElem?_eq_some_iff.1 hj).1
      rw [List.getElem?_ofFn, dif_pos hjl, Option.some.injEq] at hj
      subst hj
      obtain ⟨q1, q2, _, q4⟩ := hy' ⟨j, hjl⟩
      exact ⟨(y ⟨j, hjl⟩).2, q1, q2, fun i u hi => q4 i u hi⟩
    · intro x hx
      rw [List.mem_ofFn] at hx
      obtain ⟨i, rfl⟩ := hx
      exact (hy' i).2.2.1
/-- An argument that is a slice. -/
theorem open_row {α : Type} {P : Program} {t e : TypeId} {d : Kd α} {ok : List α → Prop} {H : Type} {enc : TypeId × Value → H} {w : World} {base fuel : Nat} {held : Bool} {v : Value} {x : DataW H × List MemPlace}
    (h : DataW.trod enc P w base (fun _ => true) held fuel t [v] = some x) (hs : Opens P t (Kd.slice e d) ok) : ∃ A c xs, v = .slice A xs.length c ∧ xs.length ≤ c ∧ d.C w A xs.length xs ∧ ok xs := by
  obtain ⟨xs, ⟨A, c, hv, hl, hr⟩, ho⟩ := hs _ _ _ _ _ _ _ _ h
  exact ⟨A, c, xs, by simpa using hv, hl, hr, ho⟩
end Go.Proofs.Ytcibmpomidhgiaa.Op
end M1
section M2
namespace Go.Proofs.Ytcibmpomidhgiaa.U
open Go.RowKit Go.Proofs.YtcibmpomidhgiaaW.PrintWords Go.Proofs.YtcibmpomidhgiaaW.PrintLast
set_option linter.unusedVariables false
/-! Small laws of numbers and lists for the plain part: what a printed loop comes to. -/
theorem w64 {n : Int} (h0 : -9223372036854775808 ≤ n) (h1 : n ≤ 9223372036854775807) : wrap64 n = n := by unfold wrap64; omega
theorem w64s {n : Nat} (h : n < 9223372036854775807) : wrap64 ((n : Int) + 1) = ((n + 1 : Nat) : Int) := by unfold wrap64; omega
theorem rd_lt {l : List Int} {i : Nat} (h : i < l.length) : rd l (i : Int) = l[i] := by
  show l.getD i 0 = _; rw [List.getD_eq_getElem?_getD, List.getElem?_eq_getElem h]; rfl
theorem rdOf_lt {α : Type} {d : α} {l : List α} {i : Nat} (h : i < l.length) : rdOf d l (i : Int) = l[i] := by
  show l.getD i d = _; rw [List.getD_eq_getElem?_getD, List.getElem?_eq_getElem h]; rfl
/-- One round more, the loop's own equation still to be unfolded. -/
theorem Ev.round {α : Type} {g : Nat → Option α} {r : α} (h : Ev (fun k => g (k + 1)) r) : Ev g r := by
  obtain ⟨K, h⟩ := h
  refine ⟨K + 1, fun n hn => ?_⟩
  obtain ⟨m, rfl⟩ : ∃ m, n = m + 1 := ⟨n - 1, by omega⟩
  exact h m (by omega)
theorem Ev.here {α β : Type} {g : Option α} {f : Nat → α → Option β} {a : α} {r : β} (h : g = some a) (k : Ev (fun n => f n a) r) : Ev (fun n => g.bind (f n)) r := by
  subst h; exact k
theorem Ev.yes {α : Type} {c : Prop} [Decidable c] {A B : Nat → Option α} {r : α} (h : c) (k : Ev A r) : Ev (fun n => if c then A n else B n) r := Ev.congr (fun _ => if_pos h) k
theorem Ev.no {α : Type} {c : Prop} [Decidable c] {A B : Nat → Option α} {r : α} (h : ¬ c) (k : Ev B r) : Ev (fun n => if c then A n else B n) r := Ev.congr (fun _ => if_neg h) k
/-- An upward loop over an index: what it comes to from i on, if what one round does is known. -/
theorem Ev.up {σ ρ : Type} (L : Nat → σ → Int → Option ρ) (n : Nat) (R : Nat → σ → ρ) (I : Nat → σ → Prop)
    (hend : ∀ s, I n s → Ev (fun k => L k s (n : Int)) (R n s))
    (hstep : ∀ i s, i < n → I i s → (∀ s', I (i + 1) s' → Ev (fun k => L k s' ((i + 1 : Nat) : Int)) (R (i + 1) s')) → Ev (fun k => L k s (i : Int)) (R i s)) :
    ∀ i s, i ≤ n → I i s → Ev (fun k => L k s (i : Int)) (R i s) := by
  intro i s hi hI
  obtain ⟨d, hd⟩ : ∃ d, n - i = d := ⟨_, rfl⟩
  induction d generalizing i s with
  | zero =>
    have : i = n := by omega
    subst this
    exact hend s hI
  | succ d ih => exact hstep i s (by omega) hI (fun s' h' => ih (i + 1) s' (by omega) h' (by omega))
/-- The rounds come to something that Q says. -/
def EvP {α : Type} (g : Nat → Option α) (Q : α → Prop) : Prop := ∃ r, Ev g r ∧ Q r
theorem EvP.of {α : Type} {g : Nat → Option α} {Q : α → Prop} {r : α} (h : Ev g r) (q : Q r) : EvP g Q := ⟨r, h, q⟩
theorem EvP.ret {α : Type} {Q : α → Prop} {r : α} (q : Q r) : EvP (fun _ => some r) Q := ⟨r, Ev.now r, q⟩
theorem EvP.mono {α : Type} {g : Nat → Option α} {Q Q' : α → Prop} (h : EvP g Q) (k : ∀ r, Q r → Q' r) : EvP g Q' := by
  obtain ⟨r, h, q⟩ := h; exact ⟨r, h, k r q⟩
theorem EvP.round {α : Type} {g : Nat → Option α} {Q : α → Prop} (h : EvP (fun k => g (k + 1)) Q) : EvP g Q := by
  obtain ⟨r, h, q⟩ := h; exact ⟨r, Ev.round h, q⟩
theorem EvP.yes {α : Type} {c : Prop} [Decidable c] {A B : Nat → Option α} {Q : α → Prop} (h : c) (k : EvP A Q) : EvP (fun n => if c then A n else B n) Q := by
  obtain ⟨r, k, q⟩ := k; exact ⟨r, Ev.yes h k, q⟩
theorem EvP.no {α : Type} {c : Prop} [Decidable c] {A B : Nat → Option α} {Q : α → Prop} (h : ¬ c) (k : EvP B Q) : EvP (fun n => if c then A n else B n) Q := by
  obtain ⟨r, k, q⟩ := k; exact ⟨r, Ev.no h k, q⟩
theorem EvP.here {α β : Type} {g : Option α} {f : Nat → α → Option β} {a : α} {Q : β → Prop} (h : g = some a) (k : EvP (fun n => f n a) Q) : EvP (fun n => g.bind (f n)) Q := by
  obtain ⟨r, k, q⟩ := k; exact ⟨r, Ev.here h k, q⟩
theorem EvP.bind {α β : Type} {g : Nat → Option α} {f : Nat → α → Option β} {a : α} {Q : β → Prop} (h : Ev g a) (k : EvP (fun n => f n a) Q) : EvP (fun n => (g n).bind (f n)) Q := by
  obtain ⟨r, k, q⟩ := k; exact ⟨r, Ev.bind h k, q⟩
theorem EvP.bindP {α β : Type} {g : Nat → Option α} {f : Nat → α → Option β} {R : α → Prop} {Q : β → Prop} (h : EvP g R) (k : ∀ a, R a → EvP (fun n => f n a) Q) : EvP (fun n => (g n).bind (f n)) Q := by
  obtain ⟨a, h, q⟩ := h; exact EvP.bind h (k a q)
theorem EvP.up {σ ρ : Type} (L : Nat → σ → Int → Option ρ) (Q : ρ → Prop) (n : Nat) (I : Nat → σ → Prop)
    (hend : ∀ s, I n s → EvP (fun k => L k s (n : Int)) Q)
    (hstep : ∀ i s, i < n → I i s → (∀ s', I (i + 1) s' → EvP (fun k => L k s' ((i + 1 : Nat) : Int)) Q) → EvP (fun k => L k s (i : Int)) Q) :
    ∀ i s, i ≤ n → I i s → EvP (fun k => L k s (i : Int)) Q := by
  intro i s hi hI
  obtain ⟨d, hd⟩ : ∃ d, n - i = d := ⟨_, rfl⟩
  induction d generalizing i s with
  | zero =>
    have : i = n := by omega
    subst this
    exact hend s hI
  | succ d ih => exact hstep i s (by omega) hI (fun s' h' => ih (i + 1) s' (by omega) h' (by omega))
/-- How many are still false. -/
def falses (l : List Bool) : Nat := l.count false
theorem falses_set {l : List Bool} {i : Nat} (hi : i < l.length) (h : l[i] = false) : falses (l.set i true) + 1 = falses l := by
  induction l generalizing i with
  | nil => simp at hi
  | cons b l ih =>
    cases i with
    | zero =>
      simp only [List.getElem_cons_zero] at h
      subst h
      simp [falses]
    | succ i =>
      simp only [List.getElem_cons_succ] at h
      have := ih (by simpa using hi) h
      simp only [List.set_cons_succ, falses, List.count_cons] at this ⊢
      omega
end Go.Proofs.Ytcibmpomidhgiaa.U
end M2
section M3
namespace Go.Proofs.Ytcibmpomidhgiaa.U
open Go.RowKit Go.Proofs.Ytcibmpomidhgiaa.P Go.Proofs.YtcibmpomidhgiaaW.PrintWords Go.Proofs.YtcibmpomidhgiaaW.PrintLast
/-! What the law's own helpers come to: copies, equality, sizes. -/
theorem toS (x0 : List Int) (hn : x0.length ≤ 35184372088832) : Ev (fun k => laws_toInt64S.f k x0) x0 := by
  have key := Ev.up (fun k s i => laws_toInt64S.l0 k x0 s i) x0.length (fun _ _ => x0) (fun i s => s.length = x0.length ∧ ∀ j, j < i → s[j]? = x0[j]?)
    (fun s ⟨h1, h2⟩ => by
      refine Ev.round ?_
      simp only [laws_toInt64S.l0]
      refine Ev.no (by omega) ?_
      have : s = x0 := List.ext_getElem? fun j => by
        by_cases hj : j < x0.length
        · exact h2 j hj
        · rw [List.getElem?_eq_none (by omega), List.getElem?_eq_none (by omega)]
      rw [this]
      exact Ev.now _)
    (fun i s hi ⟨h1, h2⟩ ih => by
      refine Ev.round ?_
      simp only [laws_toInt64S.l0]
      refine Ev.yes (by omega) (Ev.yes (by omega) (Ev.yes (by omega) ?_))
      rw [w64s (by omega)]
      refine ih _ ⟨by simp [h1], fun j hj => ?_⟩
      rw [Int.toNat_natCast, rd_lt hi]
      by_cases e : j = i
      · subst e
        rw [List.getElem?_set_self (by omega), List.getElem?_eq_getElem hi]
      · rw [List.getElem?_set_ne (by omega)]
        exact h2 j (by omega))
  unfold laws_toInt64S.f
  refine Ev.yes (by omega) (Ev.yes (by omega) ?_)
  have := key 0 (List.replicate x0.length 0) (by omega) ⟨by simp, fun j hj => absurd hj (by omega)⟩
  simpa using this
theorem toSS (x0 : List (List Int)) (hn : x0.length ≤ 1048576) (hr : ∀ x ∈ x0, x.length ≤ 1048576) : Ev (fun k => laws_toInt64SS.f k x0) x0 := by
  have key := Ev.up (fun k s i => laws_toInt64SS.l0 k x0 s i) x0.length (fun _ _ => x0) (fun i s => s.length = x0.length ∧ ∀ j, j < i → s[j]? = x0[j]?)
    (fun s ⟨h1, h2⟩ => by
      refine Ev.round ?_
      simp only [laws_toInt64SS.l0]
      refine Ev.no (by omega) ?_
      have : s = x0 := List.ext_getElem? fun j => by
        by_cases hj : j < x0.length
        · exact h2 j hj
        · rw [List.getElem?_eq_none (by omega), List.getElem?_eq_none (by omega)]
      rw [this]
      exact Ev.now _)
    (fun i s hi ⟨h1, h2⟩ ih => by
      refine Ev.round ?_
      simp only [laws_toInt64SS.l0]
      refine Ev.yes (by omega) (Ev.yes (by omega) ?_)
      have hg : rd_L1 x0 (i : Int) = x0[i] := rdOf_lt (d := []) hi
      rw [hg]
      refine Ev.bind (toS x0[i] (by have := hr _ (List.getElem_mem hi); omega)) (Ev.yes (by omega) ?_)
      rw [w64s (by omega)]
      refine ih _ ⟨by simp [h1], fun j hj => ?_⟩
      rw [Int.toNat_natCast]
      by_cases e : j = i
      · subst e
        rw [List.getElem?_set_self (by omega), List.getElem?_eq_getElem hi]
      · rw [List.getElem?_set_ne (by omega)]
        exact h2 j (by omega))
  unfold laws_toInt64SS.f
  refine Ev.yes (by omega) (Ev.yes (by omega) ?_)
  have := key 0 (List.replicate x0.length []) (by omega) ⟨by simp, fun j hj => absurd hj (by omega)⟩
  simpa using this
theorem eqS (a b : List Int) (hn : a.length ≤ 9223372036854775806) : Ev (fun k => laws_eqInt64S.f k a b) (decide (a = b)) := by
  unfold laws_eqInt64S.f
  by_cases hl : a.length = b.length
  · refine Ev.yes (by omega) ?_
    have key := Ev.up (fun k (_ : Unit) i => laws_eqInt64S.l0 k a b i) a.length (fun _ _ => decide (a = b)) (fun i _ => ∀ j, j < i → a[j]? = b[j]?)
      (fun _ h2 => by
        refine Ev.round ?_
        simp only [laws_eqInt64S.l0]
        refine Ev.no (by omega) ?_
        have : a = b := List.ext_getElem? fun j => by
          by_cases hj : j < a.length
          · exact h2 j hj
          · rw [List.getElem?_eq_none (by omega), List.getElem?_eq_none (by omega)]
        rw [decide_eq_true this]
        exact Ev.now _)
      (fun i _ hi h2 ih => by
        refine Ev.round ?_
        simp only [laws_eqInt64S.l0]
        refine Ev.yes (by omega) (Ev.yes (by omega) (Ev.yes (by omega) ?_))
        rw [rd_lt hi, rd_lt (by omega : i < b.length), w64s (by omega)]
        by_cases e : a[i] = b[i]
        · refine Ev.yes e (ih () fun j hj => ?_)
          by_cases e' : j = i
          · subst e'
            rw [List.getElem?_eq_getElem hi, List.getElem?_eq_getElem (by omega), e]
          · exact h2 j (by omega)
        · refine Ev.no e ?_
          rw [decide_eq_false (fun h => e (by subst h; rfl))]
          exact Ev.now _)
    have := key 0 () (by omega) (fun j hj => absurd hj (by omega))
    simpa using this
  · refine Ev.no (by omega) ?_
    rw [decide_eq_false (fun h => hl (by rw [h]))]
    exact Ev.now _
theorem eqSS (a b : List (List Int)) (hn : a.length ≤ 9223372036854775806) (hr : ∀ x ∈ a, x.length ≤ 9223372036854775806) : Ev (fun k => laws_eqInt64SS.f k a b) (decide (a = b)) := by
  unfold laws_eqInt64SS.f
  by_cases hl : a.length = b.length
  · refine Ev.yes (by omega) ?_
    have key := Ev.up (fun k (_ : Unit) i => laws_eqInt64SS.l0 k a b i) a.length (fun _ _ => decide (a = b)) (fun i _ => ∀ j, j < i → a[j]? = b[j]?)
      (fun _ h2 => by
        refine Ev.round ?_
        simp only [laws_eqInt64SS.l0]
        refine Ev.no (by omega) ?_
        have : a = b := List.ext_getElem? fun j => by
          by_cases hj : j < a.length
          · exact h2 j hj
          · rw [List.getElem?_eq_none (by omega), List.getElem?_eq_none (by omega)]
        rw [decide_eq_true this]
        exact Ev.now _)
      (fun i _ hi h2 ih => by
        refine Ev.round ?_
        simp only [laws_eqInt64SS.l0]
        refine Ev.yes (by omega) (Ev.yes (by omega) (Ev.yes (by omega) ?_))
        have hg : rd_L1 a (i : Int) = a[i] := rdOf_lt (d := []) hi
        have hg2 : rd_L1 b (i : Int) = b[i] := rdOf_lt (d := []) (by omega)
        rw [hg, hg2, w64s (by omega)]
        refine Ev.bind (eqS a[i] b[i] (hr _ (List.getElem_mem hi))) ?_
        by_cases e : a[i] = b[i]
        · rw [decide_eq_true e]
          refine Ev.yes rfl (ih () fun j hj => ?_)
          by_cases e' : j = i
          · subst e'
            rw [List.getElem?_eq_getElem hi, List.getElem?_eq_getElem (by omega), e]
          · exact h2 j (by omega)
        · rw [decide_eq_false e]
          refine Ev.no (by simp) ?_
          rw [decide_eq_false (fun h => e (by subst h; rfl))]
          exact Ev.now _)
    have := key 0 () (by omega) (fun j hj => absurd hj (by omega))
    simpa using this
  · refine Ev.no (by omega) ?_
    rw [decide_eq_false (fun h => hl (by rw [h]))]
    exact Ev.now _
/-- The size of a list of lists as the laws count it. -/
def sz2 (x : List (List Int)) : Nat := x.length + (x.map List.length).sum
theorem szSS (x0 : List (List Int)) (hn : x0.length ≤ maxLen) (hr : ∀ x ∈ x0, x.length ≤ maxLen) (a : Nat) (ha : a ≤ 1048576) :
    Ev (fun k => laws_szInt64SS.f k x0 a) (if sz2 x0 ≤ a then ((a - sz2 x0 : Nat) : Int) else -1) := by
  unfold maxLen at hn hr
  have hrd : ∀ i, i < x0.length → rd_L1 x0 (i : Int) = x0.getD i [] := fun i hi => rfl
  have key := Ev.up (fun k (s : Nat) i => laws_szInt64SS.l0 k x0 (s : Int) i) x0.length
    (fun i s => if ((x0.drop i).map List.length).sum ≤ s then ((s - ((x0.drop i).map List.length).sum : Nat) : Int) else -1) (fun _ s => s ≤ 1048576)
    (fun s hs => by
      refine Ev.round ?_
      simp only [laws_szInt64SS.l0]
      refine Ev.no (by omega) ?_
      simp only [List.drop_length, List.map_nil, List.sum_nil, Nat.zero_le, if_true, Nat.sub_zero]
      exact Ev.now _)
    (fun i s hi hs ih => by
      refine Ev.round ?_
      simp only [laws_szInt64SS.l0]
      refine Ev.yes (by omega) (Ev.yes (by omega) ?_)
      have hg : rd_L1 x0 (i : Int) = x0[i] := rdOf_lt (d := []) hi
      rw [hg, w64s (by omega)]
      have hx := hr _ (List.getElem_mem hi)
      have hd : x0.drop i = x0[i] :: x0.drop (i + 1) := List.drop_eq_getElem_cons hi
      rw [hd, List.map_cons, List.sum_cons]
      have hw : wrap64 ((s : Int) - (x0[i].length : Int)) = (s : Int) - (x0[i].length : Int) := w64 (by omega) (by omega)
      have hf : laws_szInt64S.f x0[i] (s : Int) = some (if x0[i].length ≤ s then ((s - x0[i].length : Nat) : Int) else -1) := by
        unfold laws_szInt64S.f
        rw [hw]
        by_cases h : x0[i].length ≤ s
        · rw [if_neg (by omega), if_pos h]; congr 1; omega
        · rw [if_pos (by omega), if_neg h]
      refine Ev.here hf ?_
      by_cases h : x0[i].length ≤ s
      · rw [if_pos h]
        refine Ev.no (by omega) ?_
        have := ih (s - x0[i].length) (by omega)
        by_cases h2 : ((x0.drop (i + 1)).map List.length).sum ≤ s - x0[i].length
        · rw [if_pos h2] at this
          rw [if_pos (by omega), show s - (x0[i].length + ((x0.drop (i + 1)).map List.length).sum) = s - x0[i].length - ((x0.drop (i + 1)).map List.length).sum from by omega]
          exact this
        · rw [if_neg h2] at this
          rw [if_neg (by omega)]
          exact this
      · rw [if_neg h]
        refine Ev.yes (by omega) ?_
        rw [if_neg (by omega)]
        exact Ev.now _)
  unfold laws_szInt64SS.f
  have hw : wrap64 ((a : Int) - (x0.length : Int)) = (a : Int) - (x0.length : Int) := w64 (by omega) (by omega)
  rw [hw]
  unfold sz2
  by_cases h : x0.length ≤ a
  · refine Ev.no (by omega) ?_
    have := key 0 (a - x0.length) (by omega) (by omega)
    rw [show ((a - x0.length : Nat) : Int) = (a : Int) - (x0.length : Int) from by omega] at this
    simp only [List.drop_zero] at this
    by_cases h2 : (x0.map List.length).sum ≤ a - x0.length
    · rw [if_pos h2] at this
      rw [if_pos (by omega), show a - (x0.length + (x0.map List.length).sum) = a - x0.length - (x0.map List.length).sum from by omega]
      exact this
    · rw [if_neg h2] at this
      rw [if_neg (by omega)]
      exact this
  · refine Ev.yes (by omega) ?_
    rw [if_neg (by omega)]
    exact Ev.now _
theorem le_sum {l : List Nat} {a : Nat} (h : a ∈ l) : a ≤ l.sum := by
  induction l with
  | nil => cases h
  | cons b l ih =>
    rw [List.sum_cons]
    rcases List.mem_cons.1 h with rfl | h
    · omega
    · have := ih h; omega
theorem le_sz2 {x0 : List (List Int)} {x : List Int} (h : x ∈ x0) : x.length ≤ sz2 x0 := by
  unfold sz2
  have : x.length ∈ x0.map List.length := List.mem_map.2 ⟨x, h, rfl⟩
  have := le_sum this
  omega
end Go.Proofs.Ytcibmpomidhgiaa.U
end M3
section M4
namespace Go.Proofs.Ytcibmpomidhgiaa.U
open Go.RowKit Go.Proofs.Ytcibmpomidhgiaa.P Go.Proofs.YtcibmpomidhgiaaW.PrintWords Go.Proofs.YtcibmpomidhgiaaW.PrintLast
/-! The reference's test of an automaton. -/
theorem spIn (a lo hi : Int) : spec_l01In.f a lo hi = some (inRB a lo hi) := by
  unfold spec_l01In.f inRB
  by_cases h : lo ≤ a
  · rw [if_pos h, decide_eq_true h, Bool.true_and]
  · rw [if_neg h, decide_eq_false h, Bool.false_and]
theorem u64w {n : Int} (h0 : 0 ≤ n) (h1 : n < 18446744073709551616) : IntKind.u64.wrap n = n := by
  show n % 18446744073709551616 = n
  omega
theorem spOne {n : Int} (h0 : 0 ≤ n) (h1 : n < 18446744073709551616) : spec_l01One.f n = some (shl .i64 1 n) := by
  unfold spec_l01One.f
  rw [u64w h0 h1, if_pos h0]
theorem maskB_eq {F n : Int} (h0 : 0 ≤ n) (h1 : n ≤ 24) : maskB F n = inRB F 0 (wrap64 (shl .i64 1 n - 1)) := by
  unfold maskB impl_IsMask.f
  rw [inRange_some]
  have : inRB n 0 24 = true := by unfold inRB; simp; omega
  rw [this]
  simp only [Option.bind_some, if_true]
  unfold impl_one.f
  rw [if_pos h0]
  simp only [Option.bind_some]
  rw [inRange_some]
  rfl
theorem spFull {n : Int} (h0 : 0 ≤ n) (h1 : n < 18446744073709551616) : spec_l01Full.f n = some (wrap64 (shl .i64 1 n - 1)) := by
  unfold spec_l01Full.f
  rw [spOne h0 h1]
  rfl
theorem l11Is_loop (L S F : Int) (N : List (List Int)) (hn : N.length ≤ 16) (hL : L ≤ 8) : Ev (fun k => spec_l11Is.l0 k (N.length : Int) 0 L S F N) (!(N.any (badRow L N.length))) := by
  have key := Ev.up (fun k (_ : Unit) i => spec_l11Is.l0 k (N.length : Int) i L S F N) N.length (fun i _ => !((N.drop i).any (badRow L N.length))) (fun _ _ => True)
    (fun _ _ => by
      refine Ev.round ?_
      simp only [spec_l11Is.l0]
      refine Ev.no (by omega) ?_
      rw [List.drop_length]
      exact Ev.now _)
    (fun i _ hi _ ih => by
      refine Ev.round ?_
      simp only [spec_l11Is.l0]
      have hg : rd_L1 N (i : Int) = N[i] := rdOf_lt (d := []) hi
      refine Ev.yes (by omega) (Ev.yes (by omega) (Ev.yes (by omega) ?_))
      rw [hg, List.drop_eq_getElem_cons hi, List.any_cons]
      by_cases hl : (N[i].length : Int) = L
      · refine Ev.yes hl ?_
        have inner := Ev.up (fun k (_ : Unit) j => spec_l11Is.l1 k (N.length : Int) (i : Int) j L S F N) N[i].length
          (fun j _ => ((N[i].drop j).all fun t => decide (-1 ≤ t) && decide (t ≤ (N.length : Int) - 1)) && !((N.drop (i + 1)).any (badRow L N.length))) (fun _ _ => True)
          (fun _ _ => by
            refine Ev.round ?_
            simp only [spec_l11Is.l1]
            refine Ev.no (by omega) ?_
            rw [List.drop_length, w64s (by omega)]
            simpa using ih () trivial)
          (fun j _ hj _ ihj => by
            refine Ev.round ?_
            simp only [spec_l11Is.l1]
            rw [hg]
            refine Ev.yes (by omega) (Ev.yes (by omega) (Ev.yes (by omega) (Ev.yes (by omega) (Ev.yes (by omega) ?_))))
            rw [rd_lt hj, w64 (n := (N.length : Int) - 1) (by omega) (by omega), w64s (by omega)]
            refine Ev.here (spIn _ _ _) ?_
            rw [List.drop_eq_getElem_cons hj, List.all_cons]
            show Ev _ ((inRB N[i][j] (-1) ((N.length : Int) - 1) && _) && _)
            cases hb : inRB N[i][j] (-1) ((N.length : Int) - 1)
            · exact Ev.no (by simp) (Ev.now _)
            · refine Ev.yes rfl ?_
              simpa using ihj () trivial)
        have h0 := inner 0 () (by omega) trivial
        have hb : badRow L N.length N[i] = !(N[i].all fun t => decide (-1 ≤ t) && decide (t ≤ (N.length : Int) - 1)) := by unfold badRow; rw [decide_eq_true hl]; simp
        rw [hb, Bool.not_or, Bool.not_not]
        simpa using h0
      · refine Ev.no hl ?_
        have hb : badRow L N.length N[i] = true := by unfold badRow; rw [decide_eq_false hl]; simp
        rw [hb]
        exact Ev.now _)
  have := key 0 () (by omega) trivial
  simpa using this
theorem l11Is_ev (L S F : Int) (N : List (List Int)) (hN : N.length ≤ 9223372036854775807) : Ev (fun k => spec_l11Is.f k L S F N) (isAut L S F N) := by
  unfold spec_l11Is.f isAut
  refine Ev.here (show spec_l11States.f L S F N = some (N.length : Int) from rfl) ?_
  refine Ev.here (spIn _ _ _) ?_
  have hno : ∀ x3, Ev (fun k => spec_l11Is.j0 k x3 true L S F N) false := fun x3 => Ev.round (by simp only [spec_l11Is.j0]; exact Ev.yes (by trivial) (Ev.now _))
  cases h1 : inRB L 0 8
  · exact Ev.no (by simp) (hno _)
  refine Ev.yes rfl (Ev.here (spIn _ _ _) ?_)
  cases h2 : inRB (N.length : Int) 1 16
  · exact Ev.no (by simp) (hno _)
  have h2' := h2
  unfold inRB at h1 h2'
  simp only [Bool.and_eq_true, decide_eq_true_eq] at h1 h2'
  refine Ev.yes rfl ?_
  rw [w64 (n := (N.length : Int) - 1) (by omega) (by omega)]
  refine Ev.here (spIn _ _ _) ?_
  cases h3 : inRB S 0 ((N.length : Int) - 1)
  · exact Ev.no (by simp) (hno _)
  refine Ev.yes rfl (Ev.here (spFull (by omega) (by omega)) (Ev.here (spIn _ _ _) ?_))
  rw [← maskB_eq (by omega) (by omega)]
  cases h4 : maskB F N.length
  · exact hno _
  · refine Ev.round ?_
    simp only [spec_l11Is.j0]
    refine Ev.no (by simp) ?_
    simpa using l11Is_loop L S F N (by omega) h1.2
theorem szA (a b c : Int) (l : List (List Int)) (hn : l.length ≤ maxLen) (hr : ∀ x ∈ l, x.length ≤ maxLen) :
    Ev (fun k => laws_szAutomaton.f k a b c l 1048576) (if sz2 l ≤ 1048576 then ((1048576 - sz2 l : Nat) : Int) else -1) := by
  unfold laws_szAutomaton.f
  refine Ev.bind (szSS l hn hr 1048576 (by omega)) ?_
  by_cases h : sz2 l ≤ 1048576
  · rw [if_pos h]
    refine Ev.no (by omega) (Ev.now _)
  · rw [if_neg h]
    refine Ev.yes (by omega) (Ev.now _)
theorem toA (a b c : Int) (l : List (List Int)) (h : sz2 l ≤ 1048576) : Ev (fun k => laws_toAutomaton.f k a b c l) (a, b, c, l) := by
  unfold laws_toAutomaton.f
  refine Ev.bind (toSS l (by unfold sz2 at h; omega) (fun x hx => by have := le_sz2 hx; omega)) (Ev.now _)
theorem eqA (a b c : Int) (l : List (List Int)) (h : sz2 l ≤ 1048576) : Ev (fun k => laws_eqAutomaton.f k a b c l a b c l) true := by
  unfold laws_eqAutomaton.f
  refine Ev.yes rfl (Ev.yes rfl (Ev.yes rfl ?_))
  refine Ev.bind (eqSS l l (by unfold sz2 at h; omega) (fun x hx => by have := le_sz2 hx; omega)) ?_
  rw [decide_eq_true rfl]
  exact Ev.yes rfl (Ev.now _)
end Go.Proofs.Ytcibmpomidhgiaa.U
end M4
section M5
namespace Go.Proofs.Ytcibmpomidhgiaa.U
open Go.RowKit Go.Proofs.Ytcibmpomidhgiaa.P Go.Proofs.YtcibmpomidhgiaaW.PrintWords Go.Proofs.YtcibmpomidhgiaaW.PrintLast
/-! Reading words in an automaton. -/
/-- The rows of a machine: each of as many places as there are letters, each place a state or -1. -/
def Rows' (L : Int) (N : List (List Int)) : Prop := ∀ row ∈ N, (row.length : Int) = L ∧ ∀ t ∈ row, -1 ≤ t ∧ t < N.length
structure AutOK (L S F : Int) (N : List (List Int)) : Prop where
  l0 : 0 ≤ L
  l8 : L ≤ 8
  n1 : 1 ≤ N.length
  n16 : N.length ≤ 16
  s0 : 0 ≤ S
  sn : S < N.length
  mask : maskB F N.length = true
  rows : Rows' L N
theorem isAut_ok {L S F : Int} {N : List (List Int)} (h : isAut L S F N = true) : AutOK L S F N := by
  unfold isAut inRB at h
  simp only [Bool.and_eq_true, decide_eq_true_eq, Bool.not_eq_true', List.any_eq_false] at h
  obtain ⟨⟨a, b⟩, ⟨c, d⟩, ⟨e, f⟩, g, i⟩ := h
  refine ⟨a, b, by omega, by omega, e, by omega, g, fun row hr => ?_⟩
  have := i row hr
  unfold badRow at this
  simp only [Bool.or_eq_true, Bool.not_eq_true', decide_eq_false_iff_not, not_or, Decidable.not_not, Bool.not_eq_false, List.all_eq_true, Bool.and_eq_true, decide_eq_true_eq] at this
  exact ⟨this.1, fun t ht => ⟨(this.2 t ht).1, by have := (this.2 t ht).2; omega⟩⟩
/-- The state to which a letter leads, -1 for no state. -/
def nx (N : List (List Int)) (s a : Int) : Int := if s < 0 then -1 else rd (rd_L1 N s) a
theorem nat_of {i : Int} {n : Nat} (h0 : 0 ≤ i) (h1 : i < n) : ∃ k : Nat, i = k ∧ k < n := ⟨i.toNat, by omega, by omega⟩
theorem row_at {L : Int} {N : List (List Int)} (hN : Rows' L N) {s : Int} (h0 : 0 ≤ s) (h1 : s < N.length) : ((rd_L1 N s).length : Int) = L ∧ ∀ t ∈ rd_L1 N s, -1 ≤ t ∧ t < N.length := by
  obtain ⟨k, rfl, hk⟩ := nat_of h0 h1
  have hg : rd_L1 N (k : Int) = N[k] := rdOf_lt (d := []) hk
  rw [hg]
  exact hN _ (List.getElem_mem hk)
theorem rd_mem {l : List Int} {i : Int} (h0 : 0 ≤ i) (h1 : i < l.length) : rd l i ∈ l := by
  obtain ⟨k, rfl, hk⟩ := nat_of h0 h1
  rw [rd_lt hk]
  exact List.getElem_mem hk
theorem nx_in {L : Int} {N : List (List Int)} (hN : Rows' L N) {s a : Int} (h1 : s < N.length) (ha : 0 ≤ a) (hb : a < L) : -1 ≤ nx N s a ∧ nx N s a < N.length := by
  unfold nx
  by_cases h : s < 0
  · rw [if_pos h]; omega
  · rw [if_neg h]
    have hr := row_at hN (s := s) (by omega) h1
    exact hr.2 _ (rd_mem ha (by omega))
def hasB (F s : Int) : Bool := (Go.bits .and .i64 (shr .i64 F s) 1) == 1
theorem has_eq {F s : Int} (h : 0 ≤ s) : impl_has.f F s = some (hasB F s) := by unfold impl_has.f; rw [if_pos h]; rfl
theorem bit_eq {F s : Int} (h : 0 ≤ s) (h1 : s < 18446744073709551616) : spec_l01Bit.f F s = some (hasB F s) := by
  unfold spec_l01Bit.f; rw [u64w h h1, if_pos h]; rfl
/-- The final states of an automaton, as a list. -/
def finL (F : Int) (n : Nat) : List Bool := (List.range n).map fun (s : Nat) => hasB F s
theorem machineOf_ev (L S F : Int) (N : List (List Int)) (hn : N.length ≤ 1048576) : Ev (fun k => impl_machineOf.f k L S F N) (L, S, finL F N.length, N) := by
  have key := Ev.up (fun k (s : List Bool) i => impl_machineOf.l0 k (N.length : Int) i L S F N L S s N) N.length (fun _ _ => (L, S, finL F N.length, N)) (fun i s => s = finL F i)
    (fun s hs => by
      refine Ev.round ?_
      simp only [impl_machineOf.l0]
      refine Ev.no (by omega) ?_
      rw [hs]
      exact Ev.now _)
    (fun i s hi hs ih => by
      refine Ev.round ?_
      simp only [impl_machineOf.l0]
      refine Ev.yes (by omega) (Ev.here (has_eq (by omega)) ?_)
      have hl : s.length = i := by rw [hs]; simp [finL]
      refine Ev.yes (by omega) ?_
      rw [w64s (by omega)]
      refine ih _ ?_
      rw [hs]
      simp [finL, List.range_succ])
  have := key 0 [] (by omega) (by simp [finL])
  unfold impl_machineOf.f
  simpa using this
theorem finL_at {F : Int} {n : Nat} {s : Int} (h0 : 0 ≤ s) (h1 : s < n) : rdOf false (finL F n) s = hasB F s := by
  obtain ⟨k, rfl, hk⟩ := nat_of h0 h1
  rw [rdOf_lt (by simp [finL]; exact hk)]
  simp [finL]
end Go.Proofs.Ytcibmpomidhgiaa.U
end M5
section M6
namespace Go.Proofs.Ytcibmpomidhgiaa.U
open Go.RowKit Go.Proofs.Ytcibmpomidhgiaa.P Go.Proofs.YtcibmpomidhgiaaW.PrintWords Go.Proofs.YtcibmpomidhgiaaW.PrintLast
set_option linter.unusedVariables false
/-! Which states are reached, and which lead to a final one. -/
inductive Led (L : Int) (N : List (List Int)) (good : List Bool) : Int → Prop
  | base {s : Int} (h0 : 0 ≤ s) (h1 : s < N.length) (h : rdOf false good s = true) : Led L N good s
  | step {s a : Int} (h0 : 0 ≤ s) (h1 : s < N.length) (ha : 0 ≤ a) (hb : a < L) (hn : 0 ≤ nx N s a) (h : Led L N good (nx N s a)) : Led L N good s
inductive Rch (L : Int) (N : List (List Int)) (S : Int) : Int → Prop
  | start : Rch L N S S
  | step {s a : Int} (h : Rch L N S s) (ha : 0 ≤ a) (hb : a < L) (hn : 0 ≤ nx N s a) : Rch L N S (nx N s a)
theorem rdOf_set {l : List Bool} {i : Nat} {b : Bool} {j : Int} (hj : 0 ≤ j) : rdOf false (l.set i b) j = if j = i ∧ i < l.length then b else rdOf false l j := by
  obtain ⟨k, rfl⟩ := Int.eq_ofNat_of_zero_le hj
  show (l.set i b).getD k false = _
  rw [List.getD_eq_getElem?_getD, List.getElem?_set]
  by_cases h : i = k
  · subst h
    by_cases h2 : i < l.length
    · simp [h2]
    · rw [if_pos rfl, if_neg h2, if_neg (by simp; omega)]
      show false = l.getD i false
      rw [List.getD_eq_getElem?_getD, List.getElem?_eq_none (by omega)]
      rfl
  · rw [if_neg h, if_neg (by omega)]
    show _ = l.getD k false
    rw [List.getD_eq_getElem?_getD]
theorem Led.in {L : Int} {N : List (List Int)} {good : List Bool} {s : Int} (h : Led L N good s) : 0 ≤ s ∧ s < N.length := by
  cases h with
  | base a b _ => exact ⟨a, b⟩
  | step a b _ _ _ _ => exact ⟨a, b⟩
/-- What is marked while the marks spread back: sound, and all good ones. -/
structure LiveI (L : Int) (N : List (List Int)) (good live : List Bool) : Prop where
  len : live.length = N.length
  sound : ∀ s : Int, 0 ≤ s → s < N.length → rdOf false live s = true → Led L N good s
  base : ∀ s : Int, 0 ≤ s → s < N.length → rdOf false good s = true → rdOf false live s = true
/-- No mark is owed at the letter a of state s. -/
def paid (N : List (List Int)) (live : List Bool) (s a : Int) : Prop := 0 ≤ nx N s a → rdOf false live (nx N s a) = true → rdOf false live s = true
theorem live_full {L : Int} {N : List (List Int)} {good live : List Bool} (hN : Rows' L N) (I : LiveI L N good live) (h : ∀ s a : Int, 0 ≤ s → s < N.length → 0 ≤ a → a < L → paid N live s a) :
    ∀ s : Int, 0 ≤ s → s < N.length → (rdOf false live s = true ↔ Led L N good s) := by
  intro s h0 h1
  refine ⟨I.sound s h0 h1, fun hl => ?_⟩
  induction hl with
  | base a b c => exact I.base _ a b c
  | step a b c d e f ih =>
    have := nx_in hN b c d
    exact h _ _ a b c d e (ih e this.2)
theorem live_mark {L : Int} {N : List (List Int)} {good live : List Bool} (hN : Rows' L N) (I : LiveI L N good live) {s : Nat} {a : Int} (hs : s < N.length) (ha : 0 ≤ a) (hb : a < L) (h0 : 0 ≤ nx N s a) (hl : rdOf false live (nx N s a) = true) :
    LiveI L N good (live.set s true) := by
  have hx := nx_in hN (s := s) (by omega) ha hb
  refine ⟨by simp [I.len], fun t h2 h3 ht => ?_, fun t h2 h3 ht => ?_⟩
  · rw [rdOf_set h2] at ht
    by_cases e : t = (s : Int)
    · subst e
      exact .step h2 h3 ha hb h0 (I.sound _ h0 hx.2 hl)
    · rw [if_neg (by omega)] at ht
      exact I.sound t h2 h3 ht
  · rw [rdOf_set h2]
    split
    · rfl
    · exact I.base t h2 h3 ht
theorem l11Live_ev {L : Int} {N : List (List Int)} (good : List Bool) (hN : Rows' L N) (hn : N.length ≤ 1048576) (hg : good.length = N.length) (hL : 0 ≤ L) (hL2 : L ≤ 1048576) :
    EvP (fun k => spec_l11Live.f k L N good) (fun live => live.length = N.length ∧ ∀ s : Int, 0 ≤ s → s < N.length → (rdOf false live s = true ↔ Led L N good s)) := by
  have hrow : ∀ s : Nat, s < N.length → ((rd_L1 N (s : Int)).length : Int) = L := fun s hs => (row_at hN (s := s) (by omega) (by omega)).1
  have hnx : ∀ s a : Nat, rd (rd_L1 N (s : Int)) (a : Int) = nx N s a := fun s a => by unfold nx; rw [if_neg (by omega)]
  have main : ∀ m live, falses live ≤ m → LiveI L N good live → EvP (fun k => spec_l11Live.l0 k live true L N good) (fun live => live.length = N.length ∧ ∀ s : Int, 0 ≤ s → s < N.length → (rdOf false live s = true ↔ Led L N good s)) := by
    intro m
    induction m using Nat.strongRecOn with
    | _ m ihm =>
    intro live0 hm I0
    refine EvP.round ?_
    simp only [spec_l11Live.l0]
    refine EvP.yes (by trivial) ?_
    -- a pass over the states
    have pass := EvP.up (fun k (st : List Bool × Bool) s => spec_l11Live.l1 k st.1 st.2 s L N good) (fun live => live.length = N.length ∧ ∀ s : Int, 0 ≤ s → s < N.length → (rdOf false live s = true ↔ Led L N good s)) N.length
      (fun s st => LiveI L N good st.1 ∧ (falses st.1 ≤ falses live0 ∧ (st.2 = true → falses st.1 < falses live0)) ∧ (st.2 = false → ∀ t a : Int, 0 ≤ t → t < (s : Int) → 0 ≤ a → a < L → paid N st.1 t a))
      (fun st ⟨h1, h2, h3⟩ => by
        refine EvP.round ?_
        simp only [spec_l11Live.l1]
        refine EvP.no (by omega) ?_
        cases hb : st.2
        · refine EvP.round ?_
          simp only [spec_l11Live.l0]
          refine EvP.no (by simp) (EvP.ret ⟨h1.len, live_full hN h1 (fun t a h4 h5 h6 h7 => h3 hb t a h4 h5 h6 h7)⟩)
        · have h4 := h2.2 hb
          exact ihm _ (by omega) st.1 (Nat.le_refl _) h1)
      (fun s st hs ⟨h1, h2, h3⟩ ih => by
        refine EvP.round ?_
        simp only [spec_l11Live.l1]
        refine EvP.yes (by omega) ?_
        have letters := EvP.up (fun k (st : List Bool × Bool) a => spec_l11Live.l2 k st.1 st.2 (s : Int) a L N good) (fun live => live.length = N.length ∧ ∀ s : Int, 0 ≤ s → s < N.length → (rdOf false live s = true ↔ Led L N good s)) L.toNat
          (fun b st => LiveI L N good st.1 ∧ (falses st.1 ≤ falses live0 ∧ (st.2 = true → falses st.1 < falses live0)) ∧ (st.2 = false → (∀ t a : Int, 0 ≤ t → t < (s : Int) → 0 ≤ a → a < L → paid N st.1 t a) ∧ ∀ a : Int, 0 ≤ a → a < (b : Int) → paid N st.1 s a))
          (fun st ⟨h1, h2, h3⟩ => by
            have hr := hrow s hs
            refine EvP.round ?_
            simp only [spec_l11Live.l2]
            refine EvP.yes (by omega) (EvP.yes (by omega) (EvP.no (by omega) (EvP.round ?_)))
            simp only [spec_l11Live.j3]
            refine EvP.no (by simp) ?_
            rw [w64s (by omega)]
            refine ih st ⟨h1, h2, fun hb t a h4 h5 h6 h7 => ?_⟩
            by_cases e : t = (s : Int)
            · subst e; exact (h3 hb).2 a h6 (by omega)
            · exact (h3 hb).1 t a h4 (by omega) h6 h7)
          (fun b st hb ⟨h1, h2, h3⟩ ihb => by
            have hr := hrow s hs
            have hl := h1.len
            refine EvP.round ?_
            simp only [spec_l11Live.l2]
            refine EvP.yes (by omega) (EvP.yes (by omega) (EvP.yes (by omega) (EvP.yes (by omega) (EvP.round ?_))))
            simp only [spec_l11Live.j3]
            cases hv : rdOf false st.1 (s : Int)
            · refine EvP.yes rfl (EvP.yes (by omega) (EvP.yes (by omega) (EvP.yes (by omega) (EvP.yes (by omega) ?_))))
              rw [hnx, w64s (by omega)]
              have hx := nx_in hN (s := s) (a := b) (by omega) (by omega) (by omega)
              by_cases h4 : nx N s b ≥ 0
              · refine EvP.yes h4 (EvP.yes h4 (EvP.yes (by omega) ?_))
                cases hw : rdOf false st.1 (nx N s b)
                · refine EvP.no (by simp) (ihb st ⟨h1, h2, fun hc => ⟨(h3 hc).1, fun a h5 h6 => ?_⟩⟩)
                  by_cases e : a = (b : Int)
                  · subst e; intro _ h7; rw [hw] at h7; cases h7
                  · exact (h3 hc).2 a h5 (by omega)
                · refine EvP.yes rfl (EvP.yes (by omega) ?_)
                  have hv' : st.1[s]'(by omega) = false := by rw [← rdOf_lt (d := false) (by omega : s < st.1.length)]; exact hv
                  have hf := falses_set (by omega) hv'
                  have h21 := h2.1
                  rw [Int.toNat_natCast]
                  exact ihb (st.1.set s true, true) ⟨live_mark hN h1 hs (by omega) (by omega) h4 hw, ⟨by simp only; omega, fun _ => by simp only; omega⟩, fun hc => by cases hc⟩
              · refine EvP.no h4 (ihb st ⟨h1, h2, fun hc => ⟨(h3 hc).1, fun a h5 h6 => ?_⟩⟩)
                by_cases e : a = (b : Int)
                · subst e; intro h7; omega
                · exact (h3 hc).2 a h5 (by omega)
            · refine EvP.no (by simp) ?_
              rw [w64s (by omega)]
              refine ih st ⟨h1, h2, fun hc t a h4 h5 h6 h7 => ?_⟩
              by_cases e : t = (s : Int)
              · subst e; intro _ _; exact hv
              · exact (h3 hc).1 t a h4 (by omega) h6 h7)
        have := letters 0 st (by omega) ⟨h1, h2, fun hc => ⟨fun t a h4 h5 h6 h7 => h3 hc t a h4 h5 h6 h7, fun a h5 h6 => absurd h6 (by omega)⟩⟩
        simpa using this)
    have := pass 0 (live0, false) (by omega) ⟨I0, ⟨Nat.le_refl _, fun h => by cases h⟩, fun _ t a h4 h5 => absurd h5 (by omega)⟩
    simpa using this
  unfold spec_l11Live.f
  refine EvP.here rfl (EvP.yes (by simp; omega) ?_)
  rw [List.nil_append]
  exact main _ good (Nat.le_refl _) ⟨hg, fun s h0 h1 h => .base h0 h1 h, fun s _ _ h => h⟩
end Go.Proofs.Ytcibmpomidhgiaa.U
end M6
section M7
namespace Go.Proofs.Ytcibmpomidhgiaa.U
open Go.RowKit Go.Proofs.YtcibmpomidhgiaaW.PrintWords Go.Proofs.YtcibmpomidhgiaaW.PrintLast Go.Proofs.YtcibmpomidhgiaaW.PrintMore
set_option linter.unusedVariables false
/-! Sets as numbers. -/
theorem i64_id (n : Int) (h0 : 0 ≤ n) (h1 : n < 2 ^ 63) : IntKind.i64.wrap n = n := by rw [IntKind.wrap_i64]; omega
theorem bor {a b : Nat} (ha : a < 2 ^ 63) (hb : b < 2 ^ 63) : bits .or .i64 (a : Int) (b : Int) = ((a ||| b : Nat) : Int) := (bits_nat .i64 63 (by decide) i64_id a b ha hb).2
theorem band {a b : Nat} (ha : a < 2 ^ 63) (hb : b < 2 ^ 63) : bits .and .i64 (a : Int) (b : Int) = ((a &&& b : Nat) : Int) := (bits_nat .i64 63 (by decide) i64_id a b ha hb).1
theorem shl1 {i : Nat} (hi : i < 63) : shl .i64 1 (i : Int) = ((2 ^ i : Nat) : Int) := by
  unfold shl
  rw [Int.toNat_natCast]
  have : min i IntKind.i64.bits = i := Nat.min_eq_left (by show i ≤ 64; omega)
  rw [this, Int.one_mul]
  have h := Nat.pow_lt_pow_right (a := 2) (by decide) hi
  rw [show ((2 : Int) ^ i) = ((2 ^ i : Nat) : Int) from by simp]
  exact i64_id _ (Int.natCast_nonneg _) (by exact_mod_cast h)
/-- The members k < n with p k, joined to s. -/
def orN (p : Nat → Bool) : Nat → Nat → Nat
  | 0, s => s
  | n + 1, s => if p n then orN p n s ||| 2 ^ n else orN p n s
theorem orN_yes {p : Nat → Bool} {n s : Nat} (h : p n = true) : orN p (n + 1) s = orN p n s ||| 2 ^ n := if_pos h
theorem orN_no {p : Nat → Bool} {n s : Nat} (h : p n = false) : orN p (n + 1) s = orN p n s := if_neg (by rw [h]; simp)
theorem orN_lt (p : Nat → Bool) (n s m : Nat) (hn : n ≤ m) (hs : s < 2 ^ m) : orN p n s < 2 ^ m := by
  induction n with
  | zero => exact hs
  | succ n ih =>
    unfold orN
    split
    · exact Nat.or_lt_two_pow (ih (by omega)) (Nat.pow_lt_pow_right (by decide) (by omega))
    · exact ih (by omega)
theorem orN_congr {p q : Nat → Bool} {n s : Nat} (h : ∀ j, j < n → p j = q j) : orN p n s = orN q n s := by
  induction n with
  | zero => rfl
  | succ n ih =>
    unfold orN
    rw [h n (by omega), ih (fun j hj => h j (by omega))]
theorem hasN {m s : Nat} (hm : m < 2 ^ 63) (hs : s ≤ 64) : ((bits .and .i64 (shr .i64 (m : Int) (s : Int)) 1) == 1) = m.testBit s := by
  have hsh : shr .i64 (m : Int) (s : Int) = ((m / 2 ^ s : Nat) : Int) := by
    unfold shr
    rw [Int.toNat_natCast, Nat.min_eq_left (show s ≤ IntKind.i64.bits from hs)]
    rw [show ((2 : Int) ^ s) = ((2 ^ s : Nat) : Int) from by simp]
    exact (Int.natCast_ediv _ _).symm
  have hq : m / 2 ^ s < 2 ^ 63 := Nat.lt_of_le_of_lt (Nat.div_le_self _ _) hm
  rw [hsh, show (1 : Int) = ((1 : Nat) : Int) from rfl, band hq (by decide), Nat.and_one_is_mod, Nat.testBit_eq_decide_div_mod_eq]
  generalize m / 2 ^ s % 2 = r
  by_cases h : r = 1
  · subst h; rfl
  · rw [decide_eq_false h]
    simp; omega
/-- The first n bits. -/
def bitsL (n m : Nat) : List Bool := (List.range n).map fun s => m.testBit s
theorem bitsL_length (n m : Nat) : (bitsL n m).length = n := by simp [bitsL]
theorem bitsL_set {n m t : Nat} (ht : t < n) : bitsL n (m ||| 2 ^ t) = (bitsL n m).set t true := by
  apply List.ext_getElem?
  intro j
  by_cases hj : j < n
  · by_cases e : j = t
    · subst e
      rw [List.getElem?_set_self (by rw [bitsL_length]; exact hj)]
      simp [bitsL, hj]
    · rw [List.getElem?_set_ne (by omega)]
      simp only [bitsL, List.getElem?_map, List.getElem?_range hj, Option.map_some, Nat.testBit_or, Nat.testBit_two_pow]
      simp; omega
  · rw [List.getElem?_eq_none (by rw [bitsL_length]; omega), List.getElem?_eq_none (by simp [bitsL]; omega)]
theorem bits_less {n m t : Nat} (ht : t < n) (h : m.testBit t = false) : falses (bitsL n (m ||| 2 ^ t)) + 1 = falses (bitsL n m) := by
  rw [bitsL_set ht]
  exact falses_set (by rw [bitsL_length]; exact ht) (by simp [bitsL, h])
theorem or_lt {m t n : Nat} (hm : m < 2 ^ n) (ht : t < n) : m ||| 2 ^ t < 2 ^ n := Nat.or_lt_two_pow hm (Nat.pow_lt_pow_right (by decide) ht)
end Go.Proofs.Ytcibmpomidhgiaa.U
end M7
section M8
namespace Go.Proofs.Ytcibmpomidhgiaa.U
open Go.RowKit Go.Proofs.Ytcibmpomidhgiaa.P Go.Proofs.YtcibmpomidhgiaaW.PrintWords Go.Proofs.YtcibmpomidhgiaaW.PrintLast Go.Proofs.YtcibmpomidhgiaaW.PrintMore
set_option linter.unusedVariables false
/-! The machine whose state 0 is the start. -/
def turn (S s : Int) : Int := if s = 0 then S else if s = S then 0 else s
theorem turn_turn (S s : Int) : turn S (turn S s) = s := by unfold turn; split <;> split <;> (try split) <;> omega
theorem turn_in {S s : Int} {n : Nat} (hS : 0 ≤ S) (hn : S < n) (h0 : 0 ≤ s) (h1 : s < n) : 0 ≤ turn S s ∧ turn S s < n := by unfold turn; split <;> (try split) <;> omega
theorem turn_neg {S s : Int} (hS : 0 ≤ S) (h : s < 0) : turn S s = s := by unfold turn; rw [if_neg (by omega), if_neg (by omega)]
theorem turn_nonneg {S s : Int} (hS : 0 ≤ S) : 0 ≤ turn S s ↔ 0 ≤ s := by unfold turn; split <;> (try split) <;> omega
theorem turn_eq (L S F : Int) (N : List (List Int)) (s : Int) : spec_l11Turn.f L S F N s = some (turn S s) := by
  unfold spec_l11Turn.f turn
  by_cases h : s = 0
  · rw [if_pos h, if_pos h]
  · rw [if_neg h, if_neg h]
    by_cases h2 : s = S
    · rw [if_pos h2, if_pos h2]
    · rw [if_neg h2, if_neg h2]
def freeRow (L S : Int) (N : List (List Int)) (s : Nat) : List Int := (List.range L.toNat).map fun (a : Nat) => turn S (nx N (turn S s) a)
def freeN (L S : Int) (N : List (List Int)) : List (List Int) := (List.range N.length).map (freeRow L S N)
def freeG (S F : Int) (N : List (List Int)) : List Bool := (List.range N.length).map fun (s : Nat) => hasB F (turn S s)
theorem l11Free_ev {L S F : Int} {N : List (List Int)} (hN : Rows' L N) (hn : N.length ≤ 1048576) (hL : 0 ≤ L) (hL2 : L ≤ 1048576) (hS : 0 ≤ S) (hSn : S < N.length) :
    Ev (fun k => spec_l11Free.f k L S F N) (L, freeN L S N, freeG S F N) := by
  have key := Ev.up (fun k (st : List (List Int) × List Bool) s => spec_l11Free.l0 k s L S F N L st.1 st.2) N.length (fun _ _ => (L, freeN L S N, freeG S F N))
    (fun s st => st.1 = (List.range s).map (freeRow L S N) ∧ st.2 = (List.range s).map fun (s : Nat) => hasB F (turn S s))
    (fun st ⟨h1, h2⟩ => by
      refine Ev.round ?_
      simp only [spec_l11Free.l0]
      refine Ev.here (show spec_l11States.f L S F N = some (N.length : Int) from rfl) (Ev.no (by omega) ?_)
      rw [h1, h2]
      exact Ev.now _)
    (fun s st hs ⟨h1, h2⟩ ih => by
      refine Ev.round ?_
      simp only [spec_l11Free.l0]
      refine Ev.here (show spec_l11States.f L S F N = some (N.length : Int) from rfl) (Ev.yes (by omega) (Ev.here (turn_eq L S F N s) ?_))
      have ht := turn_in (n := N.length) (s := (s : Int)) hS hSn (by omega) (by omega)
      have hr := row_at hN ht.1 ht.2
      have inner := Ev.up (fun k (row : List Int) a => spec_l11Free.l1 k (s : Int) (turn S s) row a L S F N L st.1 st.2) L.toNat (fun _ _ => (L, freeN L S N, freeG S F N)) (fun a row => row = (List.range a).map fun (a : Nat) => turn S (nx N (turn S s) a))
        (fun row hrow => by
          refine Ev.round ?_
          simp only [spec_l11Free.l1]
          have l1 : st.1.length = s := by rw [h1]; simp
          have l2 : st.2.length = s := by rw [h2]; simp
          refine Ev.no (by omega) (Ev.yes (by omega) (Ev.here (bit_eq ht.1 (by omega)) (Ev.yes (by omega) ?_)))
          rw [w64s (by omega)]
          refine ih (_, _) ⟨?_, ?_⟩
          · rw [h1, hrow, List.range_succ, List.map_append]; rfl
          · rw [h2, List.range_succ, List.map_append]; rfl)
        (fun a row ha hrow iha => by
          refine Ev.round ?_
          simp only [spec_l11Free.l1]
          have l1 : row.length = a := by rw [hrow]; simp
          refine Ev.yes (by omega) (Ev.yes ht.1 (Ev.yes ht.2 (Ev.yes (by omega) (Ev.yes (by omega) (Ev.here (turn_eq L S F N _) (Ev.yes (by omega) ?_))))))
          rw [w64s (by omega)]
          refine iha _ ?_
          have e : nx N (turn S s) a = rd (rd_L1 N (turn S s)) a := by unfold nx; rw [if_neg (by omega)]
          rw [hrow, List.range_succ, List.map_append, ← e]; rfl)
      have := inner 0 [] (by omega) rfl
      simpa using this)
  have := key 0 ([], []) (by omega) ⟨rfl, rfl⟩
  unfold spec_l11Free.f
  simpa using this
theorem freeN_length (L S : Int) (N : List (List Int)) : (freeN L S N).length = N.length := by simp [freeN]
theorem freeN_row {L S : Int} {N : List (List Int)} {s : Nat} (hs : s < N.length) : rd_L1 (freeN L S N) (s : Int) = freeRow L S N s := by
  have : rd_L1 (freeN L S N) (s : Int) = (freeN L S N)[s]'(by rw [freeN_length]; exact hs) := rdOf_lt (d := []) (by rw [freeN_length]; exact hs)
  rw [this]; simp [freeN]
theorem freeN_nx {L S : Int} {N : List (List Int)} {s a : Int} (h0 : 0 ≤ s) (h1 : s < N.length) (ha : 0 ≤ a) (hb : a < L) : nx (freeN L S N) s a = turn S (nx N (turn S s) a) := by
  obtain ⟨k, rfl, hk⟩ := nat_of h0 h1
  obtain ⟨b, rfl⟩ := Int.eq_ofNat_of_zero_le ha
  have e : nx (freeN L S N) (k : Int) (b : Int) = rd (rd_L1 (freeN L S N) (k : Int)) (b : Int) := by unfold nx; rw [if_neg (by omega)]
  rw [e, freeN_row hk, rd_lt (by simp [freeRow]; omega)]
  simp [freeRow]
theorem free_rows {L S : Int} {N : List (List Int)} (hN : Rows' L N) (hL : 0 ≤ L) (hS : 0 ≤ S) (hSn : S < N.length) : Rows' L (freeN L S N) := by
  intro row hr
  simp only [freeN, List.mem_map, List.mem_range] at hr
  obtain ⟨s, hs, rfl⟩ := hr
  refine ⟨by simp [freeRow]; omega, fun t ht => ?_⟩
  simp only [freeRow, List.mem_map, List.mem_range] at ht
  obtain ⟨a, ha, rfl⟩ := ht
  rw [freeN_length]
  have ht := turn_in (n := N.length) (s := (s : Int)) hS hSn (by omega) (by omega)
  have hx := nx_in hN ht.2 (a := (a : Int)) (by omega) (by omega)
  by_cases h : 0 ≤ nx N (turn S s) a
  · have := turn_in hS hSn h hx.2; omega
  · rw [turn_neg hS (by omega)]; omega
theorem freeG_at {S F : Int} {N : List (List Int)} {s : Int} (h0 : 0 ≤ s) (h1 : s < N.length) : rdOf false (freeG S F N) s = hasB F (turn S s) := by
  obtain ⟨k, rfl, hk⟩ := nat_of h0 h1
  rw [rdOf_lt (by simp [freeG]; exact hk)]
  simp [freeG]
theorem led_free {L S F : Int} {N : List (List Int)} (hN : Rows' L N) (hS : 0 ≤ S) (hSn : S < N.length) {s : Int} (h : Led L N (finL F N.length) s) : Led L (freeN L S N) (freeG S F N) (turn S s) := by
  induction h with
  | base h0 h1 h =>
    have ht := turn_in hS hSn h0 h1
    refine .base ht.1 (by rw [freeN_length]; exact ht.2) ?_
    rw [freeG_at ht.1 ht.2, turn_turn, ← finL_at h0 h1]
    exact h
  | @step s a h0 h1 ha hb hn _ ih =>
    have ht := turn_in hS hSn h0 h1
    have e : nx (freeN L S N) (turn S s) a = turn S (nx N s a) := by rw [freeN_nx ht.1 ht.2 ha hb, turn_turn]
    refine .step ht.1 (by rw [freeN_length]; exact ht.2) ha hb (by rw [e, turn_nonneg hS]; exact hn) ?_
    rw [e]
    exact ih
theorem free_led {L S F : Int} {N : List (List Int)} (hN : Rows' L N) (hS : 0 ≤ S) (hSn : S < N.length) {s : Int} (h : Led L (freeN L S N) (freeG S F N) s) : Led L N (finL F N.length) (turn S s) := by
  induction h with
  | base h0 h1 h =>
    rw [freeN_length] at h1
    have ht := turn_in hS hSn h0 h1
    refine .base ht.1 ht.2 ?_
    rw [finL_at ht.1 ht.2, ← freeG_at h0 h1]
    exact h
  | @step s a h0 h1 ha hb hn _ ih =>
    rw [freeN_length] at h1
    have ht := turn_in hS hSn h0 h1
    have e := freeN_nx (S := S) h0 h1 ha hb
    rw [e, turn_turn] at ih
    rw [e, turn_nonneg hS] at hn
    exact .step ht.1 ht.2 ha hb hn ih
end Go.Proofs.Ytcibmpomidhgiaa.U
end M8
