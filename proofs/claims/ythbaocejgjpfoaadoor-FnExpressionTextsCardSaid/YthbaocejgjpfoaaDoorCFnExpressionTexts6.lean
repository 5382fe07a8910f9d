import Derived.ArgAppend
import Derived.Below
import Derived.BigQuiet
import Derived.Deep.AppendLies
import Derived.Deep.CutBlock
import Derived.Deep.DeepCutAuto
import Derived.Deep.Draws
import Derived.Deep.LoopGhost
import Derived.Deep.OwnRows
import Derived.Deep.QuietTactic
import Derived.Deep.RegionHeld3
import Derived.KernelRfl
import Derived.Laws.BitsLemmas
import Derived.Laws.BytesArg
import Derived.Laws.IdiomCopy
import Derived.Laws.MakeOwn
import Derived.Laws.OwnMore
import Derived.Laws.Rows
import Derived.Laws.Slices
import Derived.Laws.StructEq
import Derived.Lib.AppendStr
import Derived.Lib.ConvBytes
import Derived.Lib.SliceRun
import Derived.Maps.AppendAt
import Derived.OrdersHeld
import Derived.OwnWalk
import Derived.RowKit
import Derived.RowKit3
import Derived.Shelf.Abstract
import Derived.Shelf.Spec.TrailingZeros
import Derived.Tactics
import Derived.Test.YthbaocejgjpfoaaDoorProg
import Derived.WalkKit
import Derived.WideLaws
import Derived.Test.YthbaocejgjpfoaaDoorCFnExpressionTexts3
import Derived.Test.YthbaocejgjpfoaaDoorCFnExpressionTexts4
import Derived.Test.YthbaocejgjpfoaaDoorCFnExpressionTexts5
section M0
namespace Go.Proofs.YthbaocejgjpfoaaDoor.P
open Go.RowKit Go.Proofs.YthbaocejgjpfoaaDoor.Sh Go.Proofs.YthbaocejgjpfoaaDoorW.PrintWords Go.Proofs.YthbaocejgjpfoaaDoorW.PrintLast Go.Proofs.YthbaocejgjpfoaaDoorW.PrintMore
attribute [local go_sem] max2_int min2_int max_two min_two max_three min_three max_four min_four   -- for this text's walks alone
set_option linter.unusedVariables false
set_option linter.unusedSimpArgs false
/-! ### impl_parts: function 114 -/
mutual
def impl_parts.l0 : Nat → List (S84) → List (List (S84)) → Int → Int → Int → Option ((List (List (S84))))
 | 0, _, _, _, _, _ => none
 | k + 1, x0, x3, x4, x12, x13 => if x13 < x12 then (impl_parts.l1 k x0 x3 x4 1 x4 x12 x13) else (some x3)
def impl_parts.l1 : Nat → List (S84) → List (List (S84)) → Int → Int → Int → Int → Int → Option ((List (List (S84))))
 | 0, _, _, _, _, _, _, _ => none
 | k + 1, x0, x3, x4, x5, x6, x12, x13 => if x5 > 0 then (if 0 ≤ x6 then (if x6 < (x0.length : Int) then ((impl_partsIn.f ((rd_T84 x0 x6).f0)).bind fun t296 => (impl_parts.l1 k x0 x3 x4 (wrap64 (x5 + (wrap64 (t296 - 1)))) (wrap64 (x6 + 1)) x12 x13)) else (none)) else (none)) else (if 0 ≤ x4 then (if x4 ≤ x6 then (if x6 ≤ (x0.length : Int) then (if x3.length < 5864062014805 then (impl_parts.l0 k x0 (x3 ++ [((x0.take (x6 : Int).toNat).drop (x4 : Int).toNat)]) x6 x12 (wrap64 (x13 + 1))) else (none)) else (none)) else (none)) else (none))
end
def impl_parts.f (k : Nat) (l0 : List (S84)) : Option ((List (List (S84)))) := if 0 < (l0.length : Int) then ((impl_partsIn.f ((rd_T84 l0 0).f0)).bind fun t294 => (impl_parts.l0 k l0 (([] : List (List (S84)))) 1 t294 0)) else (none)
set_option maxHeartbeats 8000000 in
set_option maxRecDepth 100000 in
theorem impl_parts.calls (k : Nat) (P0_ : Nat → Prop) (A0 : Option Addr) (c0 : Nat) (l0 : List (S84)) (r : List (List (S84))) (w : World) (hs0 : Kd.V k84 84 w w.heap.size (fun k_ => P0_ k_) (.slice A0 l0.length c0) l0) (h : impl_parts.f k l0 = some r) :
  Calls Tryd.prog 114 #[.slice A0 l0.length c0] w fun e w' => ∃ v0_ : Value, e = .returned (v0_) ∧ Kd.N (Kd.slice 84 k84) 39 w' w.heap.size (fun k_ => (P0_ k_ ∨ w.heap.size ≤ k_)) v0_ r ∧ Below w.heap.size w w' := by
 have HO0 := Aside0.mk (show Kd.V k84 84 w w.heap.size (fun k_ => (P0_ k_ ∨ w.heap.size ≤ k_)) (.slice A0 l0.length c0) l0 from Kd.V_mono hs0 (fun k_ hk => .inl hk))
 have HB := Aside0.mk (Below.refl w.heap.size w)
 have H : (if 0 < (l0.length : Int) then ((impl_partsIn.f ((rd_T84 l0 0).f0)).bind fun t294 => (impl_parts.l0 k l0 (([] : List (List (S84)))) 1 t294 0)) else (none)) = some r := h
 clear h
 obtain ⟨y290, hy290⟩ : ∃ y_ : List (List (S84)), y_ = (([] : List (List (S84)))) := ⟨_, rfl⟩
 replace H : (if 0 < (l0.length : Int) then ((impl_partsIn.f ((rd_T84 l0 0).f0)).bind fun t294 => (impl_parts.l0 k l0 y290 1 t294 0)) else (none)) = some r := by first | (rw [hy290]; with_reducible exact H) | (have H2_ := (Option.bind_some _ _).symm.trans H; rw [hy290]; with_reducible exact H2_) | (have H2_ := (Option.bind_some _ _).symm.trans H; with_reducible exact H2_) | with_reducible exact H | (rw [hy290]; exact H) | exact H
 have Ny290 := Aside0.mk hy290
 clear hy290
 by_cases c2 : 0 < (l0.length : Int)
 ·rw [if_pos c2] at H
  have c2b0 : decide (0 < (l0.length : Int)) = true := decide_eq_true c2
  have c2b1 : decide (0 < l0.length) = true := decide_eq_true (by omega)
  clear c2
  replace H := Option.bind_eq_some_iff.mp H
  obtain ⟨t294, A30, H⟩ := H
  replace H : (impl_parts.l0 k l0 y290 1 t294 0) = some r := H
  have A3 := Aside0.mk A30
  clear A30
  have H' := Aside0.mk H
  clear H
  go_enter Tryd.func114, Tryd.ntmps114
  go_wp2_with (first | ((with_reducible refine gate_dst (N := 7) rfl ?_); refine Kd.N_lit (Kd.slice 84 k84) _ 39 ?hg (N' := 7) ?hd (xs := ([] : List (List (S84)))) (inner := []) (ok := (fun k_ => (P0_ k_ ∨ w.heap.size ≤ k_))) (okp := (fun k_ => (P0_ k_ ∨ w.heap.size ≤ k_))) ?hr ?hp (fun _ hk => hk) ((show ∀ k_, w.heap.size ≤ k_ → (fun k_ => (P0_ k_ ∨ w.heap.size ≤ k_)) k_ from fun k_ hk => (.inr (Nat.le_trans (below_size (bW)) hk))) _ (Nat.le_refl _)) (Below.refl _ _) (Nat.le_refl _) (by simp) ?_; (case hd => rfl); (case hg => rfl); (case hr => first | (go_simp; done) | (go_simp; rfl)); (case hp => exact (Reps.none _ _)); intro v291 w4 ho5 hb hg_ hnew_; clear hg_ hnew_; (first | rw [← Ny290.out] at ho5 | (simp only [Int.reduceToNat] at ho5; rw [← Ny290.out] at ho5)); have n0_ := Aside0.mk (Kd.V_elder' (by (with_reducible repeat (first | apply Kd.V_alloc | apply Kd.V_drewN | apply Kd.V_drew)); exact HO0.out) (Kd.N_base ho5) hb); have n1_ := Aside0.mk (Kd.N_lower ho5 (below_size (bW))); have n2_ := Aside0.mk (below_step (bW) hb); clear HO0 HB; have HO0 := n0_; have HO292 := n1_; have HB := n2_; clear n0_ n1_ n2_ hb ho5; have p293 : 0 ≤ (0 : Int) := (by omega); have q293 : 0 < (l0.length : Int) := ofD; obtain ⟨ad293, e293, hx293_0, hx293_1⟩ := at_T84 (Kd.V_reads' HO0.out).2.2 0 p293 q293; cases e293; have qi293 : (0 < l0.length) = True := eq_true (by omega); (try rw [show ((0 : Int)).toNat = 0 from rfl] at hx293_0); (try rw [show 0 * 2 = 0 from rfl] at hx293_0); (try rw [Addr.add_zero'] at hx293_0); (try rw [show ((0 : Int)).toNat = 0 from rfl] at hx293_1); (try rw [show 0 * 2 = 0 from rfl] at hx293_1); (try rw [Addr.add_zero'] at hx293_1); replace p293 := eq_true p293; replace q293 := eq_true q293) | ((with_reducible refine gate_callee (f := 146) rfl ?_); refine goesS (some 12) Tryd.func146 #[.int .i64 ((rd_T84 l0 0).f0)] ?_; (with_reducible refine (impl_partsIn.calls ((rd_T84 l0 0).f0) t294 _ A3.out).mono ?_); rintro e w' ⟨rfl, ⟨nd, rfl⟩⟩; refine ⟨_, rfl, ?_⟩))
  go_loopg [3, 4, 13] k (fun kq v3 v4 v13 w' => ∃ (x3_1 : List (List (S84))) (x4_1 : Int) (x13_1 : Int), v4 = .int .i64 x4_1 ∧ v13 = .int .i64 x13_1 ∧ Aside0 (impl_parts.l0 kq l0 x3_1 x4_1 t294 x13_1 = some r) ∧ Aside0 (kq ≤ k) ∧ Aside0 (Kd.V k84 84 w' w.heap.size (fun k_ => (P0_ k_ ∨ w.heap.size ≤ k_) ∧ some k_ ≠ (v3 : Value).ownBlock) (.slice (some ad293) l0.length c0) l0) ∧ Aside0 (Kd.N (Kd.slice 84 k84) 39 w' w.heap.size (fun k_ => (P0_ k_ ∨ w.heap.size ≤ k_)) v3 x3_1) ∧ Aside0 (Below w.heap.size w w'))
  case atStart => exact ⟨(y290), (1), (0), (eW), (eW), H', ⟨Nat.le_refl _⟩, ⟨by (with_reducible repeat (first | apply Kd.V_alloc | apply Kd.V_drewN | apply Kd.V_drew)); exact HO0.out⟩, ⟨by (with_reducible repeat (first | apply Kd.N_alloc | apply Kd.N_drewN | apply Kd.N_drew)); exact HO292.out⟩, ⟨bW⟩⟩
  case round =>
   clear H'
   try clear c1
   try clear c2
   try clear c2b0
   try clear c2b1
   try clear p2
   try clear q2
   try clear hx2
   try clear qi2
   try clear hx293_0
   try clear hx293_1
   try clear p293
   try clear q293
   obtain ⟨x3_1, x4_1, x13_1, rfl, rfl, HA, HK1, HO_0, HO_3, HB⟩ := hrel
   cases gk with
   | zero => exact absurd HA.out (by simp [impl_parts.l0])
   | succ k1 =>
    have H := HA.out
    clear HA
    simp only [impl_parts.l0] at H
    by_cases c6 : x13_1 < t294
    ·rw [if_pos c6] at H
     have c6b0 : decide (x13_1 < t294) = true := decide_eq_true c6
     clear c6
     have H' := Aside0.mk H
     clear H
     go_wp2
     go_loopg [5, 6] k1 (fun kq v5 v6 w' => ∃ (x5_2 : Int) (x6_2 : Int), v5 = .int .i64 x5_2 ∧ v6 = .int .i64 x6_2 ∧ Aside0 (impl_parts.l1 kq l0 x3_1 x4_1 x5_2 x6_2 t294 x13_1 = some r) ∧ Aside0 (kq ≤ k1) ∧ Aside0 (Kd.V k84 84 w' w.heap.size (fun k_ => (P0_ k_ ∨ w.heap.size ≤ k_) ∧ some k_ ≠ (u3 : Value).ownBlock) (.slice (some ad293) l0.length c0) l0) ∧ Aside0 (Kd.N (Kd.slice 84 k84) 39 w' w.heap.size (fun k_ => (P0_ k_ ∨ w.heap.size ≤ k_)) u3 x3_1) ∧ Aside0 (Below w.heap.size w w'))
     case atStart => exact ⟨(1), (x4_1), (eW), (eW), H', ⟨Nat.le_refl _⟩, ⟨by (with_reducible repeat (first | apply Kd.V_alloc | apply Kd.V_drewN | apply Kd.V_drew)); exact HO_0.out⟩, ⟨by (with_reducible repeat (first | apply Kd.N_alloc | apply Kd.N_drewN | apply Kd.N_drew)); exact HO_3.out⟩, ⟨bW⟩⟩
     case round =>
      clear H'
      try clear c1
      try clear c2
      try clear c2b0
      try clear c2b1
      try clear p2
      try clear q2
      try clear hx2
      try clear qi2
      try clear c6
      try clear c6b0
      try clear hx293_0
      try clear hx293_1
      try clear p2
      try clear p293
      try clear q2
      try clear q293
      obtain ⟨x5_2, x6_2, rfl, rfl, HA, HK2, HO_0, HO_3, HB⟩ := hrel
      cases gk with
      | zero => exact absurd HA.out (by simp [impl_parts.l1])
      | succ k2 =>
       have H := HA.out
       clear HA
       simp only [impl_parts.l1] at H
       by_cases c7 : x5_2 > 0
       ·rw [if_pos c7] at H
        have c7b0 : decide (0 < x5_2) = true := decide_eq_true c7
        clear c7
        by_cases c8 : 0 ≤ x6_2
        ·rw [if_pos c8] at H
         have c8b0 : decide (0 ≤ x6_2) = true := decide_eq_true c8
         clear c8
         by_cases c9 : x6_2 < (l0.length : Int)
         ·rw [if_pos c9] at H
          have c9b0 : decide (x6_2 < (l0.length : Int)) = true := decide_eq_true c9
          clear c9
          replace H := Option.bind_eq_some_iff.mp H
          obtain ⟨t296, A100, H⟩ := H
          replace H : (impl_parts.l1 k2 l0 x3_1 x4_1 (wrap64 (x5_2 + (wrap64 (t296 - 1)))) (wrap64 (x6_2 + 1)) t294 x13_1) = some r := H
          have A10 := Aside0.mk A100
          clear A100
          have H' := Aside0.mk H
          clear H
          have p295 : 0 ≤ (x6_2 : Int) := ofD
          have q295 : x6_2 < (l0.length : Int) := ofD
          obtain ⟨ad295, e295, hx295_0, hx295_1⟩ := at_T84 (Kd.V_reads' HO_0.out).2.2 x6_2 p295 q295
          obtain rfl : ad293 = ad295 := (by injection e295)
          replace p295 := eq_true p295
          replace q295 := eq_true q295
          go_wp2_with (first | ((with_reducible refine gate_callee (f := 146) rfl ?_); refine goesS (some 26) Tryd.func146 #[.int .i64 ((rd_T84 l0 x6_2).f0)] ?_; (with_reducible refine (impl_partsIn.calls ((rd_T84 l0 x6_2).f0) t296 _ A10.out).mono ?_); rintro e w' ⟨rfl, ⟨nd, rfl⟩⟩; refine ⟨_, rfl, ?_⟩))
          go_roundg k2
          case measure => have := HK1.out; have := HK2.out; omega
          case rel => exact ⟨(wrap64 (x5_2 + (wrap64 (t296 - 1)))), (wrap64 (x6_2 + 1)), (eW), (eW), H', ⟨by have := HK1.out; have := HK2.out; omega⟩, ⟨by (with_reducible repeat (first | apply Kd.V_alloc | apply Kd.V_drewN | apply Kd.V_drew)); exact HO_0.out⟩, ⟨by (with_reducible repeat (first | apply Kd.N_alloc | apply Kd.N_drewN | apply Kd.N_drew)); exact HO_3.out⟩, ⟨bW⟩⟩
         ·rw [if_neg c9] at H
          exact absurd H (by simp)
        ·rw [if_neg c8] at H
         exact absurd H (by simp)
       ·rw [if_neg c7] at H
        have c7b0 : decide (0 < x5_2) = false := decide_eq_false c7
        clear c7
        by_cases c11 : 0 ≤ x4_1
        ·rw [if_pos c11] at H
         have c11b0 := eq_true c11
         have c11b1 : decide (0 ≤ x4_1) = true := decide_eq_true c11
         clear c11
         by_cases c12 : x4_1 ≤ x6_2
         ·rw [if_pos c12] at H
          have c12b0 := eq_true c12
          have c12b1 : decide (x4_1 ≤ x6_2) = true := decide_eq_true c12
          clear c12
          by_cases c13 : x6_2 ≤ (l0.length : Int)
          ·rw [if_pos c13] at H
           have c13b0 := eq_true c13
           have c13b1 : decide (x6_2 ≤ (l0.length : Int)) = true := decide_eq_true c13
           clear c13
           obtain ⟨y297, hy297⟩ : ∃ y_ : List (S84), y_ = ((l0.take (x6_2 : Int).toNat).drop (x4_1 : Int).toNat) := ⟨_, rfl⟩
           replace H : (if x3_1.length < 5864062014805 then (impl_parts.l0 k2 l0 (x3_1 ++ [y297]) x6_2 t294 (wrap64 (x13_1 + 1))) else (none)) = some r := by first | (rw [hy297]; with_reducible exact H) | (have H2_ := (Option.bind_some _ _).symm.trans H; rw [hy297]; with_reducible exact H2_) | (have H2_ := (Option.bind_some _ _).symm.trans H; with_reducible exact H2_) | with_reducible exact H | (rw [hy297]; exact H) | exact H
           have Ny297 := Aside0.mk hy297
           clear hy297
           by_cases c14 : x3_1.length < 5864062014805
           ·rw [if_pos c14] at H
            have LMc14 := Aside0.mk c14
            clear c14
            obtain ⟨y302, hy302⟩ : ∃ y_ : List (List (S84)), y_ = (x3_1 ++ [y297]) := ⟨_, rfl⟩
            replace H : (impl_parts.l0 k2 l0 y302 x6_2 t294 (wrap64 (x13_1 + 1))) = some r := by first | (rw [hy302]; with_reducible exact H) | (have H2_ := (Option.bind_some _ _).symm.trans H; rw [hy302]; with_reducible exact H2_) | (have H2_ := (Option.bind_some _ _).symm.trans H; with_reducible exact H2_) | with_reducible exact H | (rw [hy302]; exact H) | exact H
            have Ny302 := Aside0.mk hy302
            clear hy302
            have H' := Aside0.mk H
            clear H
            have q15 : (x6_2 : Int) ≤ ((l0.length : Int) : Int) := ofD
            obtain ⟨i015, hi015, _, hsz15, _⟩ := info_parts info84
            have hroom15 : l0.length ≤ c0 := (Kd.V_reads' HO_0.out).2.1
            have hC15 : Kd.F k84 _ _ (some ad293) l0.length l0 := (Kd.V_at (base := w.heap.size) HO_0.out).2.2
            have ql15 : (x4_1 : Int) ≤ (x6_2 : Int) := ofD
            have q015 : (0 : Int) ≤ (x4_1 : Int) := ofD
            have hcut15 := cut_mid (P := Tryd.prog) 39 84 .i64 .i64 Tryd.underlying39 hi015 2 hsz15 (some ad293) l0.length c0 x4_1 x6_2 q015 ql15 q15 hroom15
            have hr15 := Kd.F_mid (lo := (x4_1 : Int).toNat) (hi := (x6_2 : Int).toNat) (c := c0) hC15 (by omega) (by omega) hroom15
            obtain ⟨A15, hA15⟩ : ∃ A1, A1 = (if c0 = (x4_1 : Int).toNat then (some ad293) else ((some ad293) : Option Addr).map (·.add ((x4_1 : Int).toNat * 2))) := ⟨_, rfl⟩
            obtain ⟨c15, hc15⟩ : ∃ c1, c1 = c0 - (x4_1 : Int).toNat := ⟨_, rfl⟩
            have hy15 : y297.length = (x6_2 : Int).toNat - (x4_1 : Int).toNat := (by rw [Ny297.out, List.length_drop, List.length_take] <;> omega)
            rw [show ((l0).take (x6_2 : Int).toNat).drop (x4_1 : Int).toNat = y297 from Ny297.out.symm] at hr15
            replace hr15 : Kd.F k84 _ _ A15 y297.length y297 := (by rw [hA15]; exact hr15)
            rw [← hy15, ← hA15, ← hc15] at hcut15
            have HO301 := Aside0.mk (show Kd.V k84 84 _ w.heap.size _ (.slice A15 y297.length c15) y297 from Kd.V_mk (by rw [hy15, hc15]; exact Nat.sub_le_sub_right (Nat.le_trans (by omega) hroom15) _) hr15)
            have HC301 := Aside0.mk (show y297.length ≤ c15 from by rw [hy15, hc15]; exact Nat.sub_le_sub_right (Nat.le_trans (by omega) hroom15) _)
            clear hr15 hC15 hroom15 hi015 hsz15 hc15
            have KY15 := Aside0.mk hy15
            have KA15 := Aside0.mk hA15
            clear hy15 hA15
            replace q15 := eq_true q15
            go_wp2_with (first | ((with_reducible refine gate_builtin (b := .append) (xs := #[.tmp 29, .tmp 34]) rfl ?_); at_builtin; refine Kd.N_append (Kd.slice 84 k84) (w0 := w) w.heap.size rfl (.tmp 29) (.tmp 34) 135 39 (.slice none 0 0) 24 rfl Tryd.underlying135 info39 rfl (by decide) (by omega) u3 x3_1 y297 [.slice A15 y297.length c15] (fun k_ => (P0_ k_ ∨ w.heap.size ≤ k_)) (fun k_ => ((fun k_ => (P0_ k_ ∨ w.heap.size ≤ k_))) k_ ∧ some k_ ≠ (u3 : Value).ownBlock) rfl rfl ?aP (fun _ hk => hk) ?aF ?aO ?aB ?aS ?aL ?_; (case aP => exact (Kd.FK_slice_mk (Kd.V_reads' (Kd.V_mono (ok' := (fun k_ => ((fun k_ => (P0_ k_ ∨ w.heap.size ≤ k_))) k_ ∧ some k_ ≠ (u3 : Value).ownBlock)) (HO301.out) (fun k_ hk => ⟨hk.1, hk.2⟩))).2.1 (Kd.V_F (Kd.V_mono (ok' := (fun k_ => ((fun k_ => (P0_ k_ ∨ w.heap.size ≤ k_))) k_ ∧ some k_ ≠ (u3 : Value).ownBlock)) (HO301.out) (fun k_ hk => ⟨hk.1, hk.2⟩))))); (case aB => exact (bW)); (case aF => exact (fun k_ hk => (.inr (Nat.le_trans (below_size (bW)) hk)))); (case aO => exact (by (with_reducible repeat (first | apply Kd.N_alloc | apply Kd.N_drewN | apply Kd.N_drew)); exact HO_3.out)); (case aS => exact (below_size (bW))); (case aL => have := LMc14.out; omega); intro v303 w16 ho hb hg hat; rw [← Ny302.out] at ho; have n0_ := Aside0.mk (Kd.V_afterv (ok := (fun k_ => (P0_ k_ ∨ w.heap.size ≤ k_))) (by (with_reducible repeat (first | apply Kd.V_alloc | apply Kd.V_drewN | apply Kd.V_drew)); exact HO_0.out) hg hat); have n1_ := Aside0.mk (Kd.V_afterv (ok := (fun k_ => (P0_ k_ ∨ w.heap.size ≤ k_))) (by (with_reducible repeat (first | apply Kd.V_alloc | apply Kd.V_drewN | apply Kd.V_drew)); exact HO301.out) hg hat); have n2_ := Aside0.mk (hb); have n3_ := Aside0.mk (ho); clear HO_0 HO301 HB HO_3; have HO_0 := n0_; have HO301 := n1_; have HB := n2_; have HO304 := n3_; clear n0_ n1_ n2_ n3_ ho hb hg hat))
            go_roundg k2
            case measure => have := HK1.out; have := HK2.out; omega
            case rel => exact ⟨(y302), (x6_2), (wrap64 (x13_1 + 1)), (eW), (eW), H', ⟨by have := HK1.out; have := HK2.out; omega⟩, ⟨by (with_reducible repeat (first | apply Kd.V_alloc | apply Kd.V_drewN | apply Kd.V_drew)); exact HO_0.out⟩, ⟨by (with_reducible repeat (first | apply Kd.N_alloc | apply Kd.N_drewN | apply Kd.N_drew)); exact HO304.out⟩, ⟨bW⟩⟩
           ·rw [if_neg c14] at H
            exact absurd H (by simp)
          ·rw [if_neg c13] at H
           exact absurd H (by simp)
         ·rw [if_neg c12] at H
          exact absurd H (by simp)
        ·rw [if_neg c11] at H
         exact absurd H (by simp)
    ·rw [if_neg c6] at H
     have c6b0 : decide (x13_1 < t294) = false := decide_eq_false c6
     clear c6
     obtain rfl := Option.some.inj H
     go_wp2
     go_ret
     exact ⟨_, eW, by (with_reducible repeat (first | apply Kd.N_alloc | apply Kd.N_drewN | apply Kd.N_drew)); exact HO_3.out, bW⟩
 ·rw [if_neg c2] at H
  exact absurd H (by simp)
/-! ### impl_letterText: function 115 -/
def letB (a : Int) : ByteArray := ⟨#[UInt8.ofNat (97 + a).toNat]⟩
theorem letB_eq {a : Int} (h0 : 0 ≤ a) (h1 : a < 31) : Utf8.encode (97 + a) = letB a := by
  have hv : Utf8.valid (97 + a) = true := by unfold Utf8.valid; simp; omega
  unfold Utf8.encode letB
  simp only [hv, if_true]
  rw [if_pos (by omega)]
def impl_letterText.f (a0 : Int) : Option ByteArray := if 0 ≤ a0 ∧ a0 < 31 then some (letB a0) else none
theorem impl_letterText.calls (a0 : Int) (r : ByteArray) (w : World) (h : impl_letterText.f a0 = some r) :
    Calls Tryd.prog 115 #[.int .i64 a0] w fun e w' => e = .returned (.string r) ∧ Drawn0 w w' := by
  unfold impl_letterText.f at h
  by_cases hc : 0 ≤ a0 ∧ a0 < 31
  · rw [if_pos hc] at h
    obtain rfl := Option.some.inj h
    clear h
    have he := letB_eq hc.1 hc.2
    generalize letB a0 = b at he ⊢
    obtain ⟨h0, h1⟩ := hc
    have hr : ∀ W, (convert 21 9 (.int .i32 (97 + a0))).run Tryd.prog W = .ok (.string b) W := by
      intro W
      rw [← he]
      simp [convert, run_underlying Tryd.underlying21, run_underlying Tryd.underlying9, Conv.intToString]
    clear he
    go_enter Tryd.func115, Tryd.ntmps115
    go_wp2
    go_ret
    exact ⟨rfl, Drawn0.refl _⟩
  · rw [if_neg hc] at h
    cases h
/-! ### impl_expressionText: function 64 -/
def impl_expressionText.f : Nat → List (S84) → Option (ByteArray)
 | 0, _ => none
 | k + 1, l0 => (impl_parts.f k l0).bind fun t305 => (if 0 < (l0.length : Int) then (if ((rd_T84 l0 0).f0) = 0 then (some (⟨#[48]⟩ : ByteArray)) else (if ((rd_T84 l0 0).f0) = 1 then (some (⟨#[49]⟩ : ByteArray)) else (if ((rd_T84 l0 0).f0) = 2 then ((impl_letterText.f ((rd_T84 l0 0).f1)).bind fun t310 => (some t310)) else (if ((rd_T84 l0 0).f0) = 3 then (if 0 < (t305.length : Int) then ((impl_expressionText.f k (rd_L7 t305 0)).bind fun t312 => (if 1 + t312.size ≤ 9223372036854775807 then (if ((⟨#[40]⟩ : ByteArray) ++ t312).size + 1 ≤ 9223372036854775807 then (if 1 < (t305.length : Int) then ((impl_expressionText.f k (rd_L7 t305 1)).bind fun t314 => (if (((⟨#[40]⟩ : ByteArray) ++ t312) ++ (⟨#[43]⟩ : ByteArray)).size + t314.size ≤ 9223372036854775807 then (if ((((⟨#[40]⟩ : ByteArray) ++ t312) ++ (⟨#[43]⟩ : ByteArray)) ++ t314).size + 1 ≤ 9223372036854775807 then (some (((((⟨#[40]⟩ : ByteArray) ++ t312) ++ (⟨#[43]⟩ : ByteArray)) ++ t314) ++ (⟨#[41]⟩ : ByteArray))) else (none)) else (none))) else (none)) else (none)) else (none))) else (none)) else (if ((rd_T84 l0 0).f0) = 4 then (if 0 < (t305.length : Int) then ((impl_expressionText.f k (rd_L7 t305 0)).bind fun t316 => (if 1 + t316.size ≤ 9223372036854775807 then (if ((⟨#[40]⟩ : ByteArray) ++ t316).size + 1 ≤ 9223372036854775807 then (if 1 < (t305.length : Int) then ((impl_expressionText.f k (rd_L7 t305 1)).bind fun t318 => (if (((⟨#[40]⟩ : ByteArray) ++ t316) ++ (⟨#[46]⟩ : ByteArray)).size + t318.size ≤ 9223372036854775807 then (if ((((⟨#[40]⟩ : ByteArray) ++ t316) ++ (⟨#[46]⟩ : ByteArray)) ++ t318).size + 1 ≤ 9223372036854775807 then (some (((((⟨#[40]⟩ : ByteArray) ++ t316) ++ (⟨#[46]⟩ : ByteArray)) ++ t318) ++ (⟨#[41]⟩ : ByteArray))) else (none)) else (none))) else (none)) else (none)) else (none))) else (none)) else (if 0 < (t305.length : Int) then ((impl_expressionText.f k (rd_L7 t305 0)).bind fun t320 => (if t320.size + 1 ≤ 9223372036854775807 then (some (t320 ++ (⟨#[42]⟩ : ByteArray))) else (none))) else (none))))))) else (none))
def impl_expressionText.T10 : Bool × List (List Nat × List Nat) := (true, [([], []), ([0], [0]), ([1], [1]), ([2], [2]), ([3], [3]), ([4], [4]), ([], []), ([6], [6]), ([7], [7]), ([8, 3], [8]), ([5, 9], [5, 9]), ([10], [10]), ([11, 9, 0, 1, 2, 3, 4, 5, 6, 7, 8, 9, 10, 11], [11])])
def impl_expressionText.B10 : List Nat := [0, 1, 3, 7, 15, 31, 0, 64, 192, 463, 1023, 2047, 4095]
theorem impl_expressionText.tab10 : rtab .any (opsOf Tryd.f64 10) = impl_expressionText.T10 := by kernel_rfl
theorem impl_expressionText.bits10 : waitsOk impl_expressionText.T10.2 impl_expressionText.B10 = true := by kernel_rfl
def impl_expressionText.T12 : Bool × List (List Nat × List Nat) := (true, [([], []), ([0], [0]), ([1], [1]), ([2], [2]), ([3], [3]), ([4], [4]), ([], []), ([6], [6]), ([7], [7]), ([8, 3], [8]), ([5, 9], [5, 9]), ([10], [10]), ([11, 9, 0, 1, 2, 3, 4, 5, 6, 7, 8, 9, 10, 11], [11])])
def impl_expressionText.B12 : List Nat := [0, 1, 3, 7, 15, 31, 0, 64, 192, 463, 1023, 2047, 4095]
theorem impl_expressionText.tab12 : rtab .any (opsOf Tryd.f64 12) = impl_expressionText.T12 := by kernel_rfl
theorem impl_expressionText.bits12 : waitsOk impl_expressionText.T12.2 impl_expressionText.B12 = true := by kernel_rfl
set_option maxHeartbeats 8000000 in
set_option maxRecDepth 100000 in
theorem impl_expressionText.calls (k : Nat) : ∀ (A0 : Option Addr) (c0 : Nat) (l0 : List (S84)) (r : ByteArray) (w : World) (hr0 : Kd.C k84 w A0 l0.length l0) (hc0 : l0.length ≤ c0) (h : impl_expressionText.f k l0 = some r),
  Calls Tryd.prog 64 #[.slice A0 l0.length c0] w fun e w' => e = .returned (.string r) ∧ Below w.heap.size w w' := by
 induction k using Nat.strongRecOn with
 | _ k ih =>
 intro A0 c0 l0 r w hr0 hc0 h
 cases k with
 | zero => exact absurd h (by simp [impl_expressionText.f])
 | succ k =>
 simp only [impl_expressionText.f] at h
 have HR0 := Aside0.mk hr0
 have HC0 := Aside0.mk hc0
 clear hr0 hc0
 have HB := Aside0.mk (Below.refl w.heap.size w)
 have H : ((impl_parts.f k l0).bind fun t305 => (if 0 < (l0.length : Int) then (if ((rd_T84 l0 0).f0) = 0 then (some (⟨#[48]⟩ : ByteArray)) else (if ((rd_T84 l0 0).f0) = 1 then (some (⟨#[49]⟩ : ByteArray)) else (if ((rd_T84 l0 0).f0) = 2 then ((impl_letterText.f ((rd_T84 l0 0).f1)).bind fun t310 => (some t310)) else (if ((rd_T84 l0 0).f0) = 3 then (if 0 < (t305.length : Int) then ((impl_expressionText.f k (rd_L7 t305 0)).bind fun t312 => (if 1 + t312.size ≤ 9223372036854775807 then (if ((⟨#[40]⟩ : ByteArray) ++ t312).size + 1 ≤ 9223372036854775807 then (if 1 < (t305.length : Int) then ((impl_expressionText.f k (rd_L7 t305 1)).bind fun t314 => (if (((⟨#[40]⟩ : ByteArray) ++ t312) ++ (⟨#[43]⟩ : ByteArray)).size + t314.size ≤ 9223372036854775807 then (if ((((⟨#[40]⟩ : ByteArray) ++ t312) ++ (⟨#[43]⟩ : ByteArray)) ++ t314).size + 1 ≤ 9223372036854775807 then (some (((((⟨#[40]⟩ : ByteArray) ++ t312) ++ (⟨#[43]⟩ : ByteArray)) ++ t314) ++ (⟨#[41]⟩ : ByteArray))) else (none)) else (none))) else (none)) else (none)) else (none))) else (none)) else (if ((rd_T84 l0 0).f0) = 4 then (if 0 < (t305.length : Int) then ((impl_expressionText.f k (rd_L7 t305 0)).bind fun t316 => (if 1 + t316.size ≤ 9223372036854775807 then (if ((⟨#[40]⟩ : ByteArray) ++ t316).size + 1 ≤ 9223372036854775807 then (if 1 < (t305.length : Int) then ((impl_expressionText.f k (rd_L7 t305 1)).bind fun t318 => (if (((⟨#[40]⟩ : ByteArray) ++ t316) ++ (⟨#[46]⟩ : ByteArray)).size + t318.size ≤ 9223372036854775807 then (if ((((⟨#[40]⟩ : ByteArray) ++ t316) ++ (⟨#[46]⟩ : ByteArray)) ++ t318).size + 1 ≤ 9223372036854775807 then (some (((((⟨#[40]⟩ : ByteArray) ++ t316) ++ (⟨#[46]⟩ : ByteArray)) ++ t318) ++ (⟨#[41]⟩ : ByteArray))) else (none)) else (none))) else (none)) else (none)) else (none))) else (none)) else (if 0 < (t305.length : Int) then ((impl_expressionText.f k (rd_L7 t305 0)).bind fun t320 => (if t320.size + 1 ≤ 9223372036854775807 then (some (t320 ++ (⟨#[42]⟩ : ByteArray))) else (none))) else (none))))))) else (none))) = some r := h
 clear h
 replace H := Option.bind_eq_some_iff.mp H
 obtain ⟨t305, A20, H⟩ := H
 replace H : (if 0 < (l0.length : Int) then (if ((rd_T84 l0 0).f0) = 0 then (some (⟨#[48]⟩ : ByteArray)) else (if ((rd_T84 l0 0).f0) = 1 then (some (⟨#[49]⟩ : ByteArray)) else (if ((rd_T84 l0 0).f0) = 2 then ((impl_letterText.f ((rd_T84 l0 0).f1)).bind fun t310 => (some t310)) else (if ((rd_T84 l0 0).f0) = 3 then (if 0 < (t305.length : Int) then ((impl_expressionText.f k (rd_L7 t305 0)).bind fun t312 => (if 1 + t312.size ≤ 9223372036854775807 then (if ((⟨#[40]⟩ : ByteArray) ++ t312).size + 1 ≤ 9223372036854775807 then (if 1 < (t305.length : Int) then ((impl_expressionText.f k (rd_L7 t305 1)).bind fun t314 => (if (((⟨#[40]⟩ : ByteArray) ++ t312) ++ (⟨#[43]⟩ : ByteArray)).size + t314.size ≤ 9223372036854775807 then (if ((((⟨#[40]⟩ : ByteArray) ++ t312) ++ (⟨#[43]⟩ : ByteArray)) ++ t314).size + 1 ≤ 9223372036854775807 then (some (((((⟨#[40]⟩ : ByteArray) ++ t312) ++ (⟨#[43]⟩ : ByteArray)) ++ t314) ++ (⟨#[41]⟩ : ByteArray))) else (none)) else (none))) else (none)) else (none)) else (none))) else (none)) else (if ((rd_T84 l0 0).f0) = 4 then (if 0 < (t305.length : Int) then ((impl_expressionText.f k (rd_L7 t305 0)).bind fun t316 => (if 1 + t316.size ≤ 9223372036854775807 then (if ((⟨#[40]⟩ : ByteArray) ++ t316).size + 1 ≤ 9223372036854775807 then (if 1 < (t305.length : Int) then ((impl_expressionText.f k (rd_L7 t305 1)).bind fun t318 => (if (((⟨#[40]⟩ : ByteArray) ++ t316) ++ (⟨#[46]⟩ : ByteArray)).size + t318.size ≤ 9223372036854775807 then (if ((((⟨#[40]⟩ : ByteArray) ++ t316) ++ (⟨#[46]⟩ : ByteArray)) ++ t318).size + 1 ≤ 9223372036854775807 then (some (((((⟨#[40]⟩ : ByteArray) ++ t316) ++ (⟨#[46]⟩ : ByteArray)) ++ t318) ++ (⟨#[41]⟩ : ByteArray))) else (none)) else (none))) else (none)) else (none)) else (none))) else (none)) else (if 0 < (t305.length : Int) then ((impl_expressionText.f k (rd_L7 t305 0)).bind fun t320 => (if t320.size + 1 ≤ 9223372036854775807 then (some (t320 ++ (⟨#[42]⟩ : ByteArray))) else (none))) else (none))))))) else (none)) = some r := H
 have A2 := Aside0.mk A20
 clear A20
 by_cases c3 : 0 < (l0.length : Int)
 ·rw [if_pos c3] at H
  have c3b0 : decide (0 < (l0.length : Int)) = true := decide_eq_true c3
  have c3b1 : decide (0 < l0.length) = true := decide_eq_true (by omega)
  clear c3
  by_cases c4 : ((rd_T84 l0 0).f0) = 0
  ·rw [if_pos c4] at H
   have c4b0 : (((rd_T84 l0 0).f0) == 0) = true := beq_iff_eq.mpr c4
   have c4b1 : (((rd_T84 l0 0).f0) != 0) = false := bne_eq_false_iff_eq.mpr c4
   clear c4
   obtain rfl := Option.some.inj H
   go_enter Tryd.func64, Tryd.ntmps64
   go_wp2_with (first | ((with_reducible refine gate_callee (f := 114) rfl ?_); refine goesS (some 5) Tryd.func114 #[.slice A0 l0.length c0] ?_; (with_reducible refine (impl_parts.calls k (fun k_ => k_ < w.heap.size) _ _ l0 t305 _ ?side1 A2.out).mono ?_); (case side1 => exact Kd.V_mk HC0.out (Kd.F_below (Kd.C_F k84_heap HR0.out) (bW))); rintro e w5 ⟨v306, rfl, ho0, hb⟩; refine ⟨_, rfl, ?_⟩; have n0_ := Aside0.mk (Kd.N_lower (Kd.N_mono (ok' := fun k_ => True) ho0 (fun k_ hk_ => trivial)) (below_size (bW))); have n1_ := Aside0.mk (below_step (bW) hb); clear HB; have HO307 := n0_; have HB := n1_; clear n0_ n1_; (try clear hb); (try clear hb2); (try clear hk); (try clear hi); (try clear ho0); have p308 : 0 ≤ (0 : Int) := (by omega); have q308 : 0 < (l0.length : Int) := ofD; obtain ⟨ad308, e308, hx308_0, hx308_1⟩ := at_T84 HR0.out 0 p308 q308; cases e308; have qi308 : (0 < l0.length) = True := eq_true (by omega); (try rw [show ((0 : Int)).toNat = 0 from rfl] at hx308_0); (try rw [show 0 * 2 = 0 from rfl] at hx308_0); (try rw [Addr.add_zero'] at hx308_0); (try rw [show ((0 : Int)).toNat = 0 from rfl] at hx308_1); (try rw [show 0 * 2 = 0 from rfl] at hx308_1); (try rw [Addr.add_zero'] at hx308_1); replace hx308_0 := (HB.out.cell (World.block_lt_of_cell? w _ hx308_0)).trans hx308_0; replace hx308_1 := (HB.out.cell (World.block_lt_of_cell? w _ hx308_1)).trans hx308_1; replace p308 := eq_true p308; replace q308 := eq_true q308))
   go_ret
   exact ⟨eW, bW⟩
  ·rw [if_neg c4] at H
   have c4b0 : (((rd_T84 l0 0).f0) == 0) = false := beq_eq_false_iff_ne.mpr c4
   have c4b1 : (((rd_T84 l0 0).f0) != 0) = true := bne_iff_ne.mpr c4
   by_cases c6 : ((rd_T84 l0 0).f0) = 1
   ·rw [if_pos c6] at H
    have c6b0 : (((rd_T84 l0 0).f0) == 1) = true := beq_iff_eq.mpr c6
    have c6b1 : (((rd_T84 l0 0).f0) != 1) = false := bne_eq_false_iff_eq.mpr c6
    clear c6
    obtain rfl := Option.some.inj H
    go_enter Tryd.func64, Tryd.ntmps64
    go_wp2_with (first | ((with_reducible refine gate_callee (f := 114) rfl ?_); refine goesS (some 5) Tryd.func114 #[.slice A0 l0.length c0] ?_; (with_reducible refine (impl_parts.calls k (fun k_ => k_ < w.heap.size) _ _ l0 t305 _ ?side1 A2.out).mono ?_); (case side1 => exact Kd.V_mk HC0.out (Kd.F_below (Kd.C_F k84_heap HR0.out) (bW))); rintro e w7 ⟨v306, rfl, ho0, hb⟩; refine ⟨_, rfl, ?_⟩; have n0_ := Aside0.mk (Kd.N_lower (Kd.N_mono (ok' := fun k_ => True) ho0 (fun k_ hk_ => trivial)) (below_size (bW))); have n1_ := Aside0.mk (below_step (bW) hb); clear HB; have HO307 := n0_; have HB := n1_; clear n0_ n1_; (try clear hb); (try clear hb2); (try clear hk); (try clear hi); (try clear ho0); have p308 : 0 ≤ (0 : Int) := (by omega); have q308 : 0 < (l0.length : Int) := ofD; obtain ⟨ad308, e308, hx308_0, hx308_1⟩ := at_T84 HR0.out 0 p308 q308; cases e308; have qi308 : (0 < l0.length) = True := eq_true (by omega); (try rw [show ((0 : Int)).toNat = 0 from rfl] at hx308_0); (try rw [show 0 * 2 = 0 from rfl] at hx308_0); (try rw [Addr.add_zero'] at hx308_0); (try rw [show ((0 : Int)).toNat = 0 from rfl] at hx308_1); (try rw [show 0 * 2 = 0 from rfl] at hx308_1); (try rw [Addr.add_zero'] at hx308_1); replace hx308_0 := (HB.out.cell (World.block_lt_of_cell? w _ hx308_0)).trans hx308_0; replace hx308_1 := (HB.out.cell (World.block_lt_of_cell? w _ hx308_1)).trans hx308_1; replace p308 := eq_true p308; replace q308 := eq_true q308))
    go_ret
    exact ⟨eW, bW⟩
   ·rw [if_neg c6] at H
    have c6b0 : (((rd_T84 l0 0).f0) == 1) = false := beq_eq_false_iff_ne.mpr c6
    have c6b1 : (((rd_T84 l0 0).f0) != 1) = true := bne_iff_ne.mpr c6
    by_cases c8 : ((rd_T84 l0 0).f0) = 2
    ·rw [if_pos c8] at H
     have c8b0 : (((rd_T84 l0 0).f0) == 2) = true := beq_iff_eq.mpr c8
     have c8b1 : (((rd_T84 l0 0).f0) != 2) = false := bne_eq_false_iff_eq.mpr c8
     clear c8
     replace H := Option.bind_eq_some_iff.mp H
     obtain ⟨t310, A90, H⟩ := H
     replace H : (some t310) = some r := H
     have A9 := Aside0.mk A90
     clear A90
     obtain rfl := Option.some.inj H
     go_enter Tryd.func64, Tryd.ntmps64
     go_wp2_with (first | ((with_reducible refine gate_callee (f := 114) rfl ?_); refine goesS (some 5) Tryd.func114 #[.slice A0 l0.length c0] ?_; (with_reducible refine (impl_parts.calls k (fun k_ => k_ < w.heap.size) _ _ l0 t305 _ ?side1 A2.out).mono ?_); (case side1 => exact Kd.V_mk HC0.out (Kd.F_below (Kd.C_F k84_heap HR0.out) (bW))); rintro e w10 ⟨v306, rfl, ho0, hb⟩; refine ⟨_, rfl, ?_⟩; have n0_ := Aside0.mk (Kd.N_lower (Kd.N_mono (ok' := fun k_ => True) ho0 (fun k_ hk_ => trivial)) (below_size (bW))); have n1_ := Aside0.mk (below_step (bW) hb); clear HB; have HO307 := n0_; have HB := n1_; clear n0_ n1_; (try clear hb); (try clear hb2); (try clear hk); (try clear hi); (try clear ho0); have p308 : 0 ≤ (0 : Int) := (by omega); have q308 : 0 < (l0.length : Int) := ofD; obtain ⟨ad308, e308, hx308_0, hx308_1⟩ := at_T84 HR0.out 0 p308 q308; cases e308; have qi308 : (0 < l0.length) = True := eq_true (by omega); (try rw [show ((0 : Int)).toNat = 0 from rfl] at hx308_0); (try rw [show 0 * 2 = 0 from rfl] at hx308_0); (try rw [Addr.add_zero'] at hx308_0); (try rw [show ((0 : Int)).toNat = 0 from rfl] at hx308_1); (try rw [show 0 * 2 = 0 from rfl] at hx308_1); (try rw [Addr.add_zero'] at hx308_1); replace hx308_0 := (HB.out.cell (World.block_lt_of_cell? w _ hx308_0)).trans hx308_0; replace hx308_1 := (HB.out.cell (World.block_lt_of_cell? w _ hx308_1)).trans hx308_1; replace p308 := eq_true p308; replace q308 := eq_true q308; have p309 : 0 ≤ (0 : Int) := (by omega); have q309 : 0 < (l0.length : Int) := ofD; obtain ⟨ad309, e309, hx309_0, hx309_1⟩ := at_T84 HR0.out 0 p309 q309; obtain rfl : ad308 = ad309 := (by injection e309); have qi309 : (0 < l0.length) = True := eq_true (by omega); (try rw [show ((0 : Int)).toNat = 0 from rfl] at hx309_0); (try rw [show 0 * 2 = 0 from rfl] at hx309_0); (try rw [Addr.add_zero'] at hx309_0); (try rw [show ((0 : Int)).toNat = 0 from rfl] at hx309_1); (try rw [show 0 * 2 = 0 from rfl] at hx309_1); (try rw [Addr.add_zero'] at hx309_1); replace hx309_0 := (HB.out.cell (World.block_lt_of_cell? w _ hx309_0)).trans hx309_0; replace hx309_1 := (HB.out.cell (World.block_lt_of_cell? w _ hx309_1)).trans hx309_1; replace p309 := eq_true p309; replace q309 := eq_true q309) | ((with_reducible refine gate_callee (f := 115) rfl ?_); refine goesS (some 20) Tryd.func115 #[.int .i64 ((rd_T84 l0 0).f1)] ?_; (with_reducible refine (impl_letterText.calls ((rd_T84 l0 0).f1) t310 _ A9.out).mono ?_); rintro e w' ⟨rfl, ⟨nd, rfl⟩⟩; refine ⟨_, rfl, ?_⟩))
     go_ret
     exact ⟨eW, bW⟩
    ·rw [if_neg c8] at H
     have c8b0 : (((rd_T84 l0 0).f0) == 2) = false := beq_eq_false_iff_ne.mpr c8
     have c8b1 : (((rd_T84 l0 0).f0) != 2) = true := bne_iff_ne.mpr c8
     by_cases c11 : ((rd_T84 l0 0).f0) = 3
     ·rw [if_pos c11] at H
      have c11b0 : (((rd_T84 l0 0).f0) == 3) = true := beq_iff_eq.mpr c11
      have c11b1 : (((rd_T84 l0 0).f0) != 3) = false := bne_eq_false_iff_eq.mpr c11
      clear c11
      by_cases c12 : 0 < (t305.length : Int)
      ·rw [if_pos c12] at H
       have c12b0 : decide (0 < (t305.length : Int)) = true := decide_eq_true c12
       have c12b1 : decide (0 < t305.length) = true := decide_eq_true (by omega)
       clear c12
       replace H := Option.bind_eq_some_iff.mp H
       obtain ⟨t312, A130, H⟩ := H
       replace H : (if 1 + t312.size ≤ 9223372036854775807 then (if ((⟨#[40]⟩ : ByteArray) ++ t312).size + 1 ≤ 9223372036854775807 then (if 1 < (t305.length : Int) then ((impl_expressionText.f k (rd_L7 t305 1)).bind fun t314 => (if (((⟨#[40]⟩ : ByteArray) ++ t312) ++ (⟨#[43]⟩ : ByteArray)).size + t314.size ≤ 9223372036854775807 then (if ((((⟨#[40]⟩ : ByteArray) ++ t312) ++ (⟨#[43]⟩ : ByteArray)) ++ t314).size + 1 ≤ 9223372036854775807 then (some (((((⟨#[40]⟩ : ByteArray) ++ t312) ++ (⟨#[43]⟩ : ByteArray)) ++ t314) ++ (⟨#[41]⟩ : ByteArray))) else (none)) else (none))) else (none)) else (none)) else (none)) = some r := H
       have A13 := Aside0.mk A130
       clear A130
       by_cases c14 : 1 + t312.size ≤ 9223372036854775807
       ·rw [if_pos c14] at H
        have c14b0 := eq_true c14
        have c14b1 : decide (1 + t312.size ≤ 9223372036854775807) = true := decide_eq_true c14
        try have c14b2 : (9223372036854775807 < 1 + t312.size) = False := eq_false (Nat.not_lt.2 c14)
        by_cases c15 : ((⟨#[40]⟩ : ByteArray) ++ t312).size + 1 ≤ 9223372036854775807
        ·rw [if_pos c15] at H
         have c15b0 := eq_true c15
         have c15b1 : decide (((⟨#[40]⟩ : ByteArray) ++ t312).size + 1 ≤ 9223372036854775807) = true := decide_eq_true c15
         try have c15b2 : (9223372036854775807 < ((⟨#[40]⟩ : ByteArray) ++ t312).size + 1) = False := eq_false (Nat.not_lt.2 c15)
         try have c15b3 : (9223372036854775807 < 1 + t312.size + 1) = False := eq_false (by have h_ := c15; simp only [ByteArray.size_append, show (⟨#[40]⟩ : ByteArray).size = 1 from rfl] at h_; omega)
         by_cases c16 : 1 < (t305.length : Int)
         ·rw [if_pos c16] at H
          have c16b0 : decide (1 < (t305.length : Int)) = true := decide_eq_true c16
          have c16b1 : decide (1 < t305.length) = true := decide_eq_true (by omega)
          clear c16
          replace H := Option.bind_eq_some_iff.mp H
          obtain ⟨t314, A170, H⟩ := H
          replace H : (if (((⟨#[40]⟩ : ByteArray) ++ t312) ++ (⟨#[43]⟩ : ByteArray)).size + t314.size ≤ 9223372036854775807 then (if ((((⟨#[40]⟩ : ByteArray) ++ t312) ++ (⟨#[43]⟩ : ByteArray)) ++ t314).size + 1 ≤ 9223372036854775807 then (some (((((⟨#[40]⟩ : ByteArray) ++ t312) ++ (⟨#[43]⟩ : ByteArray)) ++ t314) ++ (⟨#[41]⟩ : ByteArray))) else (none)) else (none)) = some r := H
          have A17 := Aside0.mk A170
          clear A170
          by_cases c18 : (((⟨#[40]⟩ : ByteArray) ++ t312) ++ (⟨#[43]⟩ : ByteArray)).size + t314.size ≤ 9223372036854775807
          ·rw [if_pos c18] at H
           have c18b0 := eq_true c18
           have c18b1 : decide ((((⟨#[40]⟩ : ByteArray) ++ t312) ++ (⟨#[43]⟩ : ByteArray)).size + t314.size ≤ 9223372036854775807) = true := decide_eq_true c18
           try have c18b2 : (9223372036854775807 < (((⟨#[40]⟩ : ByteArray) ++ t312) ++ (⟨#[43]⟩ : ByteArray)).size + t314.size) = False := eq_false (Nat.not_lt.2 c18)
           try have c18b3 : (9223372036854775807 < 1 + t312.size + 1 + t314.size) = False := eq_false (by have h_ := c18; simp only [ByteArray.size_append, show (⟨#[40]⟩ : ByteArray).size = 1 from rfl, show (⟨#[43]⟩ : ByteArray).size = 1 from rfl] at h_; omega)
           by_cases c19 : ((((⟨#[40]⟩ : ByteArray) ++ t312) ++ (⟨#[43]⟩ : ByteArray)) ++ t314).size + 1 ≤ 9223372036854775807
           ·rw [if_pos c19] at H
            have c19b0 := eq_true c19
            have c19b1 : decide (((((⟨#[40]⟩ : ByteArray) ++ t312) ++ (⟨#[43]⟩ : ByteArray)) ++ t314).size + 1 ≤ 9223372036854775807) = true := decide_eq_true c19
            try have c19b2 : (9223372036854775807 < ((((⟨#[40]⟩ : ByteArray) ++ t312) ++ (⟨#[43]⟩ : ByteArray)) ++ t314).size + 1) = False := eq_false (Nat.not_lt.2 c19)
            try have c19b3 : (9223372036854775807 < 1 + t312.size + 1 + t314.size + 1) = False := eq_false (by have h_ := c19; simp only [ByteArray.size_append, show (⟨#[40]⟩ : ByteArray).size = 1 from rfl, show (⟨#[43]⟩ : ByteArray).size = 1 from rfl] at h_; omega)
            obtain rfl := Option.some.inj H
            go_enter Tryd.func64, Tryd.ntmps64
            try go_wp2_with (first | ((with_reducible refine gate_callee (f := 114) rfl ?_); refine goesS (some 5) Tryd.func114 #[.slice A0 l0.length c0] ?_; (with_reducible refine (impl_parts.calls k (fun k_ => k_ < w.heap.size) _ _ l0 t305 _ ?side1 A2.out).mono ?_); (case side1 => exact Kd.V_mk HC0.out (Kd.F_below (Kd.C_F k84_heap HR0.out) (bW))); rintro e w20 ⟨v306, rfl, ho0, hb⟩; refine ⟨_, rfl, ?_⟩; have n0_ := Aside0.mk (Kd.N_lower (Kd.N_mono (ok' := fun k_ => True) ho0 (fun k_ hk_ => trivial)) (below_size (bW))); have n1_ := Aside0.mk (below_step (bW) hb); clear HB; have HO307 := n0_; have HB := n1_; clear n0_ n1_; (try clear hb); (try clear hb2); (try clear hk); (try clear hi); (try clear ho0); have p308 : 0 ≤ (0 : Int) := (by omega); have q308 : 0 < (l0.length : Int) := ofD; obtain ⟨ad308, e308, hx308_0, hx308_1⟩ := at_T84 HR0.out 0 p308 q308; cases e308; have qi308 : (0 < l0.length) = True := eq_true (by omega); (try rw [show ((0 : Int)).toNat = 0 from rfl] at hx308_0); (try rw [show 0 * 2 = 0 from rfl] at hx308_0); (try rw [Addr.add_zero'] at hx308_0); (try rw [show ((0 : Int)).toNat = 0 from rfl] at hx308_1); (try rw [show 0 * 2 = 0 from rfl] at hx308_1); (try rw [Addr.add_zero'] at hx308_1); replace hx308_0 := (HB.out.cell (World.block_lt_of_cell? w _ hx308_0)).trans hx308_0; replace hx308_1 := (HB.out.cell (World.block_lt_of_cell? w _ hx308_1)).trans hx308_1; replace p308 := eq_true p308; replace q308 := eq_true q308))
            have n0_ := Aside0.mk (Kd.N_drew HO307.out)
            have n1_ := Aside0.mk (below_drew1 HB.out)
            clear HO307 HB; have HO307 := n0_; have HB := n1_; clear n0_ n1_
            obtain ⟨Ao22, co22, eo22⟩ := Kd.N_slice HO307.out
            (first | subst eo22 | (injection eo22 with f1_ f2_ f3_; have f4_ := f1_.symm; have f5_ := f3_.symm; clear f1_ f2_ f3_; subst f4_; subst f5_))
            have p311 : 0 ≤ (0 : Int) := (by omega)
            have q311 : 0 < (t305.length : Int) := ofD
            obtain ⟨ad311, A311_0, c311_0, e311, hx311_0, hl311_0, hi311_0⟩ := at_L7 (Kd.N_reads' HO307.out).2.2 0 p311 q311
            cases e311
            obtain ⟨ce311, hce311, hMe311, hcc311⟩ := Kd.N_get HO307.out [] 0 p311 (by first | exact q311 | exact ofD | (have e_ := (Kd.N_reads' HO307.out).1; omega))
            obtain ⟨ua311_0, uc311_0, rfl, ul311_0, ge311_0⟩ := Kd.FK_slice_open hMe311
            have hv311_0 := hcc311 0 _ rfl
            rw [Nat.add_zero, show ((Kd.slice 84 k84)).sz = 1 from rfl, Nat.mul_one] at hv311_0
            replace hv311_0 := Option.some.inj (hv311_0.symm.trans hx311_0)
            injection hv311_0 with hva_ hvn_ hvc_
            rw [hva_] at ge311_0
            rw [hvc_] at ul311_0
            have HL311_0 := Aside0.mk (show Kd.V k84 84 _ w.heap.size _ _ (rd_L7 t305 0) from Kd.V_mk ul311_0 ge311_0)
            clear hva_ hvn_ hvc_ ge311_0 ul311_0 hcc311 hce311
            have qi311 : (0 < t305.length) = True := eq_true (by omega)
            (try rw [show ((0 : Int)).toNat = 0 from rfl] at hx311_0)
            (try rw [Addr.add_zero'] at hx311_0)
            have HR311_0 := Aside0.mk hi311_0
            have HC311_0 := Aside0.mk hl311_0
            clear hi311_0 hl311_0
            replace p311 := eq_true p311
            replace q311 := eq_true q311
            have p313 : 0 ≤ (1 : Int) := (by omega)
            have q313 : 1 < (t305.length : Int) := ofD
            obtain ⟨ad313, A313_0, c313_0, e313, hx313_0, hl313_0, hi313_0⟩ := at_L7 (Kd.N_reads' HO307.out).2.2 1 p313 q313
            obtain rfl : ad311 = ad313 := (by injection e313)
            obtain ⟨ce313, hce313, hMe313, hcc313⟩ := Kd.N_get HO307.out [] 1 p313 (by first | exact q313 | exact ofD | (have e_ := (Kd.N_reads' HO307.out).1; omega))
            obtain ⟨ua313_0, uc313_0, rfl, ul313_0, ge313_0⟩ := Kd.FK_slice_open hMe313
            have hv313_0 := hcc313 0 _ rfl
            rw [Nat.add_zero, show ((Kd.slice 84 k84)).sz = 1 from rfl, Nat.mul_one] at hv313_0
            replace hv313_0 := Option.some.inj (hv313_0.symm.trans hx313_0)
            injection hv313_0 with hva_ hvn_ hvc_
            rw [hva_] at ge313_0
            rw [hvc_] at ul313_0
            have HL313_0 := Aside0.mk (show Kd.V k84 84 _ w.heap.size _ _ (rd_L7 t305 1) from Kd.V_mk ul313_0 ge313_0)
            clear hva_ hvn_ hvc_ ge313_0 ul313_0 hcc313 hce313
            (try simp only [show (1 : Int).toNat = 1 from rfl, Nat.reduceMul, Nat.reduceEqDiff, Go.Addr.add, ↓reduceIte] at hx313_0)
            have qi313 : (1 < t305.length) = True := eq_true (by omega)
            (try rw [show ((1 : Int)).toNat = 1 from rfl] at hx313_0)
            have HR313_0 := Aside0.mk hi313_0
            have HC313_0 := Aside0.mk hl313_0
            clear hi313_0 hl313_0
            replace p313 := eq_true p313
            replace q313 := eq_true q313
            refine start_ (n := 13) (S := fun w' => w'.cell? ad311 = some (.slice A311_0 (rd_L7 t305 0).length c311_0) ∧ w'.cell? ⟨ad311.block, ad311.off + 1, none⟩ = some (.slice A313_0 (rd_L7 t305 1).length c313_0)) (ds := []) #[false, false, false, false, false, false, false, false, false, false, false, false, false] (by kernel_rfl) rfl rfl ⟨hx311_0, hx313_0⟩ (fun hHeld => ?_); refine with_tabW impl_expressionText.tab10 impl_expressionText.bits10 (fun HT_ HW_ => ?_)
            generalize w20.drew = w21 at HO307 HB HL311_0 HL313_0 HR311_0 HR313_0 hx311_0 hx313_0 hHeld ⊢
            refine pureS (i := 0) (N := some 23) (any_of HT_.out (by kernel_rfl)) ?_
            refine pureS (i := 1) (N := some 24) (any_of HT_.out (by kernel_rfl)) ?_
            refine pureS (i := 6) (N := some 29) (any_of HT_.out (by kernel_rfl)) ?_
            refine pureS (i := 7) (N := some 30) (any_of HT_.out (by kernel_rfl)) ?_
            refine takeS (i := 2) (N := some 25) (take_ofW HT_.out HW_.out (by kernel_rfl)) hHeld ?_
            refine takeS (i := 8) (N := some 31) (take_ofW HT_.out HW_.out (by kernel_rfl)) hHeld ?_
            refine one_ (i := 3) (N := some 26) #[true, true, true, true, false, false, true, true, true, false, false, false, false] rfl rfl (one_of HT_.out (by kernel_rfl)) (by decide) (fun K hK => ?_)
            refine goes_ Tryd.func64 (by kernel_rfl) rfl #[.slice A311_0 (rd_L7 t305 0).length c311_0] (by rfl) rfl rfl (by (try simp only [List.map_toArray, List.map_cons, List.map_nil]); first | done | rfl | (simp only [List.length_drop, List.length_take]; rfl)) ?_
            with_reducible refine (ih k (by omega) _ _ (rd_L7 t305 0) t312 _ ?side1 ?side2 A13.out).mono ?_
            (case side1 => exact cP (by repeat (first | (with_reducible exact HR311_0.out) | (with_reducible refine Kd.C_alloc ?_ _) | (with_reducible refine Kd.C_drewN ?_ _) | (with_reducible refine Kd.C_drew ?_) | exact HR311_0.out)))
            (case side2 => exact HC311_0.out)
            rintro e w23 ⟨rfl, hb⟩
            have HS0_ := (hb.cell (World.block_lt_of_cell? _ _ (hHeld.1))).trans (hHeld.1)
            have HS1_ := (hb.cell (World.block_lt_of_cell? _ _ (hHeld.2))).trans (hHeld.2)
            refine ⟨_, rfl, ?_⟩
            have n0_ := Aside0.mk (Kd.N_below (by (with_reducible repeat (first | apply Kd.N_alloc | apply Kd.N_drewN | apply Kd.N_drew)); exact HO307.out) hb)
            have n1_ := Aside0.mk (Kd.V_below (by (with_reducible repeat (first | apply Kd.V_alloc | apply Kd.V_drewN | apply Kd.V_drew)); exact HL311_0.out) hb)
            have n2_ := Aside0.mk (Kd.V_below (by (with_reducible repeat (first | apply Kd.V_alloc | apply Kd.V_drewN | apply Kd.V_drew)); exact HL313_0.out) hb)
            have n3_ := Aside0.mk (Kd.C_below (by repeat (first | (with_reducible exact HR311_0.out) | (with_reducible refine Kd.C_alloc ?_ _) | (with_reducible refine Kd.C_drewN ?_ _) | (with_reducible refine Kd.C_drew ?_) | exact HR311_0.out)) hb)
            have n4_ := Aside0.mk (Kd.C_below (by repeat (first | (with_reducible exact HR313_0.out) | (with_reducible refine Kd.C_alloc ?_ _) | (with_reducible refine Kd.C_drewN ?_ _) | (with_reducible refine Kd.C_drew ?_) | exact HR313_0.out)) hb)
            have n5_ := Aside0.mk (below_step (bW) hb)
            clear HO307 HL311_0 HL313_0 HR311_0 HR313_0 HB; have HO307 := n0_; have HL311_0 := n1_; have HL313_0 := n2_; have HR311_0 := n3_; have HR313_0 := n4_; have HB := n5_; clear n0_ n1_ n2_ n3_ n4_ n5_
            (try clear hb)
            (try clear hb2)
            (try clear hk)
            (try clear hi)
            refine hK.out _ _ ⟨HS0_, HS1_⟩ (fun hHeld => ?_)
            clear hK K
            refine norm_ (a' := ?_) ?_ ?_
            rotate_left
            ·show Act.put _ (some 26) _ = _
             simp only [Act.put, List.setIfInBounds_toArray, List.set_cons_zero, List.set_cons_succ, i64_w, i32_w]
             rfl
            refine pureS (i := 4) (N := some 27) (any_of HT_.out (by kernel_rfl)) ?_
            refine pureS (i := 5) (N := some 28) (any_of HT_.out (by kernel_rfl)) ?_
            refine one_ (i := 9) (N := some 32) #[true, true, true, true, true, true, true, true, true, true, false, false, false] rfl rfl (one_of HT_.out (by kernel_rfl)) (by decide) (fun K hK => ?_)
            refine goes_ Tryd.func64 (by kernel_rfl) rfl #[.slice A313_0 (rd_L7 t305 1).length c313_0] (by rfl) rfl rfl (by (try simp only [List.map_toArray, List.map_cons, List.map_nil]); first | done | rfl | (simp only [List.length_drop, List.length_take]; rfl)) ?_
            with_reducible refine (ih k (by omega) _ _ (rd_L7 t305 1) t314 _ ?side1 ?side2 A17.out).mono ?_
            (case side1 => exact cP (by repeat (first | (with_reducible exact HR313_0.out) | (with_reducible refine Kd.C_alloc ?_ _) | (with_reducible refine Kd.C_drewN ?_ _) | (with_reducible refine Kd.C_drew ?_) | exact HR313_0.out)))
            (case side2 => exact HC313_0.out)
            rintro e w24 ⟨rfl, hb⟩
            have HS0_ := (hb.cell (World.block_lt_of_cell? _ _ (hHeld.1))).trans (hHeld.1)
            have HS1_ := (hb.cell (World.block_lt_of_cell? _ _ (hHeld.2))).trans (hHeld.2)
            refine ⟨_, rfl, ?_⟩
            have n0_ := Aside0.mk (Kd.N_below (by (with_reducible repeat (first | apply Kd.N_alloc | apply Kd.N_drewN | apply Kd.N_drew)); exact HO307.out) hb)
            have n1_ := Aside0.mk (Kd.V_below (by (with_reducible repeat (first | apply Kd.V_alloc | apply Kd.V_drewN | apply Kd.V_drew)); exact HL311_0.out) hb)
            have n2_ := Aside0.mk (Kd.V_below (by (with_reducible repeat (first | apply Kd.V_alloc | apply Kd.V_drewN | apply Kd.V_drew)); exact HL313_0.out) hb)
            have n3_ := Aside0.mk (Kd.C_below (by repeat (first | (with_reducible exact HR311_0.out) | (with_reducible refine Kd.C_alloc ?_ _) | (with_reducible refine Kd.C_drewN ?_ _) | (with_reducible refine Kd.C_drew ?_) | exact HR311_0.out)) hb)
            have n4_ := Aside0.mk (Kd.C_below (by repeat (first | (with_reducible exact HR313_0.out) | (with_reducible refine Kd.C_alloc ?_ _) | (with_reducible refine Kd.C_drewN ?_ _) | (with_reducible refine Kd.C_drew ?_) | exact HR313_0.out)) hb)
            have n5_ := Aside0.mk (below_step (bW) hb)
            clear HO307 HL311_0 HL313_0 HR311_0 HR313_0 HB; have HO307 := n0_; have HL311_0 := n1_; have HL313_0 := n2_; have HR311_0 := n3_; have HR313_0 := n4_; have HB := n5_; clear n0_ n1_ n2_ n3_ n4_ n5_
            (try clear hb)
            (try clear hb2)
            (try clear hk)
            (try clear hi)
            refine hK.out _ _ ⟨HS0_, HS1_⟩ (fun hHeld => ?_)
            clear hK K
            refine norm_ (a' := ?_) ?_ ?_
            rotate_left
            ·show Act.put _ (some 32) _ = _
             simp only [Act.put, List.setIfInBounds_toArray, List.set_cons_zero, List.set_cons_succ, i64_w, i32_w]
             rfl
            refine pureS (i := 10) (N := some 33) (any_of HT_.out (by kernel_rfl)) ?_
            refine pureS (i := 11) (N := some 34) (any_of HT_.out (by kernel_rfl)) ?_
            refine pureS (i := 12) (N := some 2) (any_of HT_.out (by kernel_rfl)) ?_
            refine done_ (done_of HT_.out (by kernel_rfl)) ?_
            try go_wp2
            go_ret
            exact ⟨eW, bW⟩
           ·rw [if_neg c19] at H
            exact absurd H (by simp)
          ·rw [if_neg c18] at H
           exact absurd H (by simp)
         ·rw [if_neg c16] at H
          exact absurd H (by simp)
        ·rw [if_neg c15] at H
         exact absurd H (by simp)
       ·rw [if_neg c14] at H
        exact absurd H (by simp)
      ·rw [if_neg c12] at H
       exact absurd H (by simp)
     ·rw [if_neg c11] at H
      have c11b0 : (((rd_T84 l0 0).f0) == 3) = false := beq_eq_false_iff_ne.mpr c11
      have c11b1 : (((rd_T84 l0 0).f0) != 3) = true := bne_iff_ne.mpr c11
      by_cases c25 : ((rd_T84 l0 0).f0) = 4
      ·rw [if_pos c25] at H
       have c25b0 : (((rd_T84 l0 0).f0) == 4) = true := beq_iff_eq.mpr c25
       have c25b1 : (((rd_T84 l0 0).f0) != 4) = false := bne_eq_false_iff_eq.mpr c25
       clear c25
       by_cases c26 : 0 < (t305.length : Int)
       ·rw [if_pos c26] at H
        have c26b0 : decide (0 < (t305.length : Int)) = true := decide_eq_true c26
        have c26b1 : decide (0 < t305.length) = true := decide_eq_true (by omega)
        clear c26
        replace H := Option.bind_eq_some_iff.mp H
        obtain ⟨t316, A270, H⟩ := H
        replace H : (if 1 + t316.size ≤ 9223372036854775807 then (if ((⟨#[40]⟩ : ByteArray) ++ t316).size + 1 ≤ 9223372036854775807 then (if 1 < (t305.length : Int) then ((impl_expressionText.f k (rd_L7 t305 1)).bind fun t318 => (if (((⟨#[40]⟩ : ByteArray) ++ t316) ++ (⟨#[46]⟩ : ByteArray)).size + t318.size ≤ 9223372036854775807 then (if ((((⟨#[40]⟩ : ByteArray) ++ t316) ++ (⟨#[46]⟩ : ByteArray)) ++ t318).size + 1 ≤ 9223372036854775807 then (some (((((⟨#[40]⟩ : ByteArray) ++ t316) ++ (⟨#[46]⟩ : ByteArray)) ++ t318) ++ (⟨#[41]⟩ : ByteArray))) else (none)) else (none))) else (none)) else (none)) else (none)) = some r := H
        have A27 := Aside0.mk A270
        clear A270
        by_cases c28 : 1 + t316.size ≤ 9223372036854775807
        ·rw [if_pos c28] at H
         have c28b0 := eq_true c28
         have c28b1 : decide (1 + t316.size ≤ 9223372036854775807) = true := decide_eq_true c28
         try have c28b2 : (9223372036854775807 < 1 + t316.size) = False := eq_false (Nat.not_lt.2 c28)
         by_cases c29 : ((⟨#[40]⟩ : ByteArray) ++ t316).size + 1 ≤ 9223372036854775807
         ·rw [if_pos c29] at H
          have c29b0 := eq_true c29
          have c29b1 : decide (((⟨#[40]⟩ : ByteArray) ++ t316).size + 1 ≤ 9223372036854775807) = true := decide_eq_true c29
          try have c29b2 : (9223372036854775807 < ((⟨#[40]⟩ : ByteArray) ++ t316).size + 1) = False := eq_false (Nat.not_lt.2 c29)
          try have c29b3 : (9223372036854775807 < 1 + t316.size + 1) = False := eq_false (by have h_ := c29; simp only [ByteArray.size_append, show (⟨#[40]⟩ : ByteArray).size = 1 from rfl] at h_; omega)
          by_cases c30 : 1 < (t305.length : Int)
          ·rw [if_pos c30] at H
           have c30b0 : decide (1 < (t305.length : Int)) = true := decide_eq_true c30
           have c30b1 : decide (1 < t305.length) = true := decide_eq_true (by omega)
           clear c30
           replace H := Option.bind_eq_some_iff.mp H
           obtain ⟨t318, A310, H⟩ := H
           replace H : (if (((⟨#[40]⟩ : ByteArray) ++ t316) ++ (⟨#[46]⟩ : ByteArray)).size + t318.size ≤ 9223372036854775807 then (if ((((⟨#[40]⟩ : ByteArray) ++ t316) ++ (⟨#[46]⟩ : ByteArray)) ++ t318).size + 1 ≤ 9223372036854775807 then (some (((((⟨#[40]⟩ : ByteArray) ++ t316) ++ (⟨#[46]⟩ : ByteArray)) ++ t318) ++ (⟨#[41]⟩ : ByteArray))) else (none)) else (none)) = some r := H
           have A31 := Aside0.mk A310
           clear A310
           by_cases c32 : (((⟨#[40]⟩ : ByteArray) ++ t316) ++ (⟨#[46]⟩ : ByteArray)).size + t318.size ≤ 9223372036854775807
           ·rw [if_pos c32] at H
            have c32b0 := eq_true c32
            have c32b1 : decide ((((⟨#[40]⟩ : ByteArray) ++ t316) ++ (⟨#[46]⟩ : ByteArray)).size + t318.size ≤ 9223372036854775807) = true := decide_eq_true c32
            try have c32b2 : (9223372036854775807 < (((⟨#[40]⟩ : ByteArray) ++ t316) ++ (⟨#[46]⟩ : ByteArray)).size + t318.size) = False := eq_false (Nat.not_lt.2 c32)
            try have c32b3 : (9223372036854775807 < 1 + t316.size + 1 + t318.size) = False := eq_false (by have h_ := c32; simp only [ByteArray.size_append, show (⟨#[40]⟩ : ByteArray).size = 1 from rfl, show (⟨#[46]⟩ : ByteArray).size = 1 from rfl] at h_; omega)
            by_cases c33 : ((((⟨#[40]⟩ : ByteArray) ++ t316) ++ (⟨#[46]⟩ : ByteArray)) ++ t318).size + 1 ≤ 9223372036854775807
            ·rw [if_pos c33] at H
             have c33b0 := eq_true c33
             have c33b1 : decide (((((⟨#[40]⟩ : ByteArray) ++ t316) ++ (⟨#[46]⟩ : ByteArray)) ++ t318).size + 1 ≤ 9223372036854775807) = true := decide_eq_true c33
             try have c33b2 : (9223372036854775807 < ((((⟨#[40]⟩ : ByteArray) ++ t316) ++ (⟨#[46]⟩ : ByteArray)) ++ t318).size + 1) = False := eq_false (Nat.not_lt.2 c33)
             try have c33b3 : (9223372036854775807 < 1 + t316.size + 1 + t318.size + 1) = False := eq_false (by have h_ := c33; simp only [ByteArray.size_append, show (⟨#[40]⟩ : ByteArray).size = 1 from rfl, show (⟨#[46]⟩ : ByteArray).size = 1 from rfl] at h_; omega)
             obtain rfl := Option.some.inj H
             go_enter Tryd.func64, Tryd.ntmps64
             try go_wp2_with (first | ((with_reducible refine gate_callee (f := 114) rfl ?_); refine goesS (some 5) Tryd.func114 #[.slice A0 l0.length c0] ?_; (with_reducible refine (impl_parts.calls k (fun k_ => k_ < w.heap.size) _ _ l0 t305 _ ?side1 A2.out).mono ?_); (case side1 => exact Kd.V_mk HC0.out (Kd.F_below (Kd.C_F k84_heap HR0.out) (bW))); rintro e w34 ⟨v306, rfl, ho0, hb⟩; refine ⟨_, rfl, ?_⟩; have n0_ := Aside0.mk (Kd.N_lower (Kd.N_mono (ok' := fun k_ => True) ho0 (fun k_ hk_ => trivial)) (below_size (bW))); have n1_ := Aside0.mk (below_step (bW) hb); clear HB; have HO307 := n0_; have HB := n1_; clear n0_ n1_; (try clear hb); (try clear hb2); (try clear hk); (try clear hi); (try clear ho0); have p308 : 0 ≤ (0 : Int) := (by omega); have q308 : 0 < (l0.length : Int) := ofD; obtain ⟨ad308, e308, hx308_0, hx308_1⟩ := at_T84 HR0.out 0 p308 q308; cases e308; have qi308 : (0 < l0.length) = True := eq_true (by omega); (try rw [show ((0 : Int)).toNat = 0 from rfl] at hx308_0); (try rw [show 0 * 2 = 0 from rfl] at hx308_0); (try rw [Addr.add_zero'] at hx308_0); (try rw [show ((0 : Int)).toNat = 0 from rfl] at hx308_1); (try rw [show 0 * 2 = 0 from rfl] at hx308_1); (try rw [Addr.add_zero'] at hx308_1); replace hx308_0 := (HB.out.cell (World.block_lt_of_cell? w _ hx308_0)).trans hx308_0; replace hx308_1 := (HB.out.cell (World.block_lt_of_cell? w _ hx308_1)).trans hx308_1; replace p308 := eq_true p308; replace q308 := eq_true q308))
             have n0_ := Aside0.mk (Kd.N_drew HO307.out)
             have n1_ := Aside0.mk (below_drew1 HB.out)
             clear HO307 HB; have HO307 := n0_; have HB := n1_; clear n0_ n1_
             obtain ⟨Ao36, co36, eo36⟩ := Kd.N_slice HO307.out
             (first | subst eo36 | (injection eo36 with f1_ f2_ f3_; have f4_ := f1_.symm; have f5_ := f3_.symm; clear f1_ f2_ f3_; subst f4_; subst f5_))
             have p315 : 0 ≤ (0 : Int) := (by omega)
             have q315 : 0 < (t305.length : Int) := ofD
             obtain ⟨ad315, A315_0, c315_0, e315, hx315_0, hl315_0, hi315_0⟩ := at_L7 (Kd.N_reads' HO307.out).2.2 0 p315 q315
             cases e315
             obtain ⟨ce315, hce315, hMe315, hcc315⟩ := Kd.N_get HO307.out [] 0 p315 (by first | exact q315 | exact ofD | (have e_ := (Kd.N_reads' HO307.out).1; omega))
             obtain ⟨ua315_0, uc315_0, rfl, ul315_0, ge315_0⟩ := Kd.FK_slice_open hMe315
             have hv315_0 := hcc315 0 _ rfl
             rw [Nat.add_zero, show ((Kd.slice 84 k84)).sz = 1 from rfl, Nat.mul_one] at hv315_0
             replace hv315_0 := Option.some.inj (hv315_0.symm.trans hx315_0)
             injection hv315_0 with hva_ hvn_ hvc_
             rw [hva_] at ge315_0
             rw [hvc_] at ul315_0
             have HL315_0 := Aside0.mk (show Kd.V k84 84 _ w.heap.size _ _ (rd_L7 t305 0) from Kd.V_mk ul315_0 ge315_0)
             clear hva_ hvn_ hvc_ ge315_0 ul315_0 hcc315 hce315
             have qi315 : (0 < t305.length) = True := eq_true (by omega)
             (try rw [show ((0 : Int)).toNat = 0 from rfl] at hx315_0)
             (try rw [Addr.add_zero'] at hx315_0)
             have HR315_0 := Aside0.mk hi315_0
             have HC315_0 := Aside0.mk hl315_0
             clear hi315_0 hl315_0
             replace p315 := eq_true p315
             replace q315 := eq_true q315
             have p317 : 0 ≤ (1 : Int) := (by omega)
             have q317 : 1 < (t305.length : Int) := ofD
             obtain ⟨ad317, A317_0, c317_0, e317, hx317_0, hl317_0, hi317_0⟩ := at_L7 (Kd.N_reads' HO307.out).2.2 1 p317 q317
             obtain rfl : ad315 = ad317 := (by injection e317)
             obtain ⟨ce317, hce317, hMe317, hcc317⟩ := Kd.N_get HO307.out [] 1 p317 (by first | exact q317 | exact ofD | (have e_ := (Kd.N_reads' HO307.out).1; omega))
             obtain ⟨ua317_0, uc317_0, rfl, ul317_0, ge317_0⟩ := Kd.FK_slice_open hMe317
             have hv317_0 := hcc317 0 _ rfl
             rw [Nat.add_zero, show ((Kd.slice 84 k84)).sz = 1 from rfl, Nat.mul_one] at hv317_0
             replace hv317_0 := Option.some.inj (hv317_0.symm.trans hx317_0)
             injection hv317_0 with hva_ hvn_ hvc_
             rw [hva_] at ge317_0
             rw [hvc_] at ul317_0
             have HL317_0 := Aside0.mk (show Kd.V k84 84 _ w.heap.size _ _ (rd_L7 t305 1) from Kd.V_mk ul317_0 ge317_0)
             clear hva_ hvn_ hvc_ ge317_0 ul317_0 hcc317 hce317
             (try simp only [show (1 : Int).toNat = 1 from rfl, Nat.reduceMul, Nat.reduceEqDiff, Go.Addr.add, ↓reduceIte] at hx317_0)
             have qi317 : (1 < t305.length) = True := eq_true (by omega)
             (try rw [show ((1 : Int)).toNat = 1 from rfl] at hx317_0)
             have HR317_0 := Aside0.mk hi317_0
             have HC317_0 := Aside0.mk hl317_0
             clear hi317_0 hl317_0
             replace p317 := eq_true p317
             replace q317 := eq_true q317
             refine start_ (n := 13) (S := fun w' => w'.cell? ad315 = some (.slice A315_0 (rd_L7 t305 0).length c315_0) ∧ w'.cell? ⟨ad315.block, ad315.off + 1, none⟩ = some (.slice A317_0 (rd_L7 t305 1).length c317_0)) (ds := []) #[false, false, false, false, false, false, false, false, false, false, false, false, false] (by kernel_rfl) rfl rfl ⟨hx315_0, hx317_0⟩ (fun hHeld => ?_); refine with_tabW impl_expressionText.tab12 impl_expressionText.bits12 (fun HT_ HW_ => ?_)
             generalize w34.drew = w35 at HO307 HB HL315_0 HL317_0 HR315_0 HR317_0 hx315_0 hx317_0 hHeld ⊢
             refine pureS (i := 0) (N := some 37) (any_of HT_.out (by kernel_rfl)) ?_
             refine pureS (i := 1) (N := some 38) (any_of HT_.out (by kernel_rfl)) ?_
             refine pureS (i := 6) (N := some 43) (any_of HT_.out (by kernel_rfl)) ?_
             refine pureS (i := 7) (N := some 44) (any_of HT_.out (by kernel_rfl)) ?_
             refine takeS (i := 2) (N := some 39) (take_ofW HT_.out HW_.out (by kernel_rfl)) hHeld ?_
             refine takeS (i := 8) (N := some 45) (take_ofW HT_.out HW_.out (by kernel_rfl)) hHeld ?_
             refine one_ (i := 3) (N := some 40) #[true, true, true, true, false, false, true, true, true, false, false, false, false] rfl rfl (one_of HT_.out (by kernel_rfl)) (by decide) (fun K hK => ?_)
             refine goes_ Tryd.func64 (by kernel_rfl) rfl #[.slice A315_0 (rd_L7 t305 0).length c315_0] (by rfl) rfl rfl (by (try simp only [List.map_toArray, List.map_cons, List.map_nil]); first | done | rfl | (simp only [List.length_drop, List.length_take]; rfl)) ?_
             with_reducible refine (ih k (by omega) _ _ (rd_L7 t305 0) t316 _ ?side1 ?side2 A27.out).mono ?_
             (case side1 => exact cP (by repeat (first | (with_reducible exact HR315_0.out) | (with_reducible refine Kd.C_alloc ?_ _) | (with_reducible refine Kd.C_drewN ?_ _) | (with_reducible refine Kd.C_drew ?_) | exact HR315_0.out)))
             (case side2 => exact HC315_0.out)
             rintro e w37 ⟨rfl, hb⟩
             have HS0_ := (hb.cell (World.block_lt_of_cell? _ _ (hHeld.1))).trans (hHeld.1)
             have HS1_ := (hb.cell (World.block_lt_of_cell? _ _ (hHeld.2))).trans (hHeld.2)
             refine ⟨_, rfl, ?_⟩
             have n0_ := Aside0.mk (Kd.N_below (by (with_reducible repeat (first | apply Kd.N_alloc | apply Kd.N_drewN | apply Kd.N_drew)); exact HO307.out) hb)
             have n1_ := Aside0.mk (Kd.V_below (by (with_reducible repeat (first | apply Kd.V_alloc | apply Kd.V_drewN | apply Kd.V_drew)); exact HL315_0.out) hb)
             have n2_ := Aside0.mk (Kd.V_below (by (with_reducible repeat (first | apply Kd.V_alloc | apply Kd.V_drewN | apply Kd.V_drew)); exact HL317_0.out) hb)
             have n3_ := Aside0.mk (Kd.C_below (by repeat (first | (with_reducible exact HR315_0.out) | (with_reducible refine Kd.C_alloc ?_ _) | (with_reducible refine Kd.C_drewN ?_ _) | (with_reducible refine Kd.C_drew ?_) | exact HR315_0.out)) hb)
             have n4_ := Aside0.mk (Kd.C_below (by repeat (first | (with_reducible exact HR317_0.out) | (with_reducible refine Kd.C_alloc ?_ _) | (with_reducible refine Kd.C_drewN ?_ _) | (with_reducible refine Kd.C_drew ?_) | exact HR317_0.out)) hb)
             have n5_ := Aside0.mk (below_step (bW) hb)
             clear HO307 HL315_0 HL317_0 HR315_0 HR317_0 HB; have HO307 := n0_; have HL315_0 := n1_; have HL317_0 := n2_; have HR315_0 := n3_; have HR317_0 := n4_; have HB := n5_; clear n0_ n1_ n2_ n3_ n4_ n5_
             (try clear hb)
             (try clear hb2)
             (try clear hk)
             (try clear hi)
             refine hK.out _ _ ⟨HS0_, HS1_⟩ (fun hHeld => ?_)
             clear hK K
             refine norm_ (a' := ?_) ?_ ?_
             rotate_left
             ·show Act.put _ (some 40) _ = _
              simp only [Act.put, List.setIfInBounds_toArray, List.set_cons_zero, List.set_cons_succ, i64_w, i32_w]
              rfl
             refine pureS (i := 4) (N := some 41) (any_of HT_.out (by kernel_rfl)) ?_
             refine pureS (i := 5) (N := some 42) (any_of HT_.out (by kernel_rfl)) ?_
             refine one_ (i := 9) (N := some 46) #[true, true, true, true, true, true, true, true, true, true, false, false, false] rfl rfl (one_of HT_.out (by kernel_rfl)) (by decide) (fun K hK => ?_)
             refine goes_ Tryd.func64 (by kernel_rfl) rfl #[.slice A317_0 (rd_L7 t305 1).length c317_0] (by rfl) rfl rfl (by (try simp only [List.map_toArray, List.map_cons, List.map_nil]); first | done | rfl | (simp only [List.length_drop, List.length_take]; rfl)) ?_
             with_reducible refine (ih k (by omega) _ _ (rd_L7 t305 1) t318 _ ?side1 ?side2 A31.out).mono ?_
             (case side1 => exact cP (by repeat (first | (with_reducible exact HR317_0.out) | (with_reducible refine Kd.C_alloc ?_ _) | (with_reducible refine Kd.C_drewN ?_ _) | (with_reducible refine Kd.C_drew ?_) | exact HR317_0.out)))
             (case side2 => exact HC317_0.out)
             rintro e w38 ⟨rfl, hb⟩
             have HS0_ := (hb.cell (World.block_lt_of_cell? _ _ (hHeld.1))).trans (hHeld.1)
             have HS1_ := (hb.cell (World.block_lt_of_cell? _ _ (hHeld.2))).trans (hHeld.2)
             refine ⟨_, rfl, ?_⟩
             have n0_ := Aside0.mk (Kd.N_below (by (with_reducible repeat (first | apply Kd.N_alloc | apply Kd.N_drewN | apply Kd.N_drew)); exact HO307.out) hb)
             have n1_ := Aside0.mk (Kd.V_below (by (with_reducible repeat (first | apply Kd.V_alloc | apply Kd.V_drewN | apply Kd.V_drew)); exact HL315_0.out) hb)
             have n2_ := Aside0.mk (Kd.V_below (by (with_reducible repeat (first | apply Kd.V_alloc | apply Kd.V_drewN | apply Kd.V_drew)); exact HL317_0.out) hb)
             have n3_ := Aside0.mk (Kd.C_below (by repeat (first | (with_reducible exact HR315_0.out) | (with_reducible refine Kd.C_alloc ?_ _) | (with_reducible refine Kd.C_drewN ?_ _) | (with_reducible refine Kd.C_drew ?_) | exact HR315_0.out)) hb)
             have n4_ := Aside0.mk (Kd.C_below (by repeat (first | (with_reducible exact HR317_0.out) | (with_reducible refine Kd.C_alloc ?_ _) | (with_reducible refine Kd.C_drewN ?_ _) | (with_reducible refine Kd.C_drew ?_) | exact HR317_0.out)) hb)
             have n5_ := Aside0.mk (below_step (bW) hb)
             clear HO307 HL315_0 HL317_0 HR315_0 HR317_0 HB; have HO307 := n0_; have HL315_0 := n1_; have HL317_0 := n2_; have HR315_0 := n3_; have HR317_0 := n4_; have HB := n5_; clear n0_ n1_ n2_ n3_ n4_ n5_
             (try clear hb)
             (try clear hb2)
             (try clear hk)
             (try clear hi)
             refine hK.out _ _ ⟨HS0_, HS1_⟩ (fun hHeld => ?_)
             clear hK K
             refine norm_ (a' := ?_) ?_ ?_
             rotate_left
             ·show Act.put _ (some 46) _ = _
              simp only [Act.put, List.setIfInBounds_toArray, List.set_cons_zero, List.set_cons_succ, i64_w, i32_w]
              rfl
             refine pureS (i := 10) (N := some 47) (any_of HT_.out (by kernel_rfl)) ?_
             refine pureS (i := 11) (N := some 48) (any_of HT_.out (by kernel_rfl)) ?_
             refine pureS (i := 12) (N := some 2) (any_of HT_.out (by kernel_rfl)) ?_
             refine done_ (done_of HT_.out (by kernel_rfl)) ?_
             try go_wp2
             go_ret
             exact ⟨eW, bW⟩
            ·rw [if_neg c33] at H
             exact absurd H (by simp)
           ·rw [if_neg c32] at H
            exact absurd H (by simp)
          ·rw [if_neg c30] at H
           exact absurd H (by simp)
         ·rw [if_neg c29] at H
          exact absurd H (by simp)
        ·rw [if_neg c28] at H
         exact absurd H (by simp)
       ·rw [if_neg c26] at H
        exact absurd H (by simp)
      ·rw [if_neg c25] at H
       have c25b0 : (((rd_T84 l0 0).f0) == 4) = false := beq_eq_false_iff_ne.mpr c25
       have c25b1 : (((rd_T84 l0 0).f0) != 4) = true := bne_iff_ne.mpr c25
       by_cases c39 : 0 < (t305.length : Int)
       ·rw [if_pos c39] at H
        have c39b0 : decide (0 < (t305.length : Int)) = true := decide_eq_true c39
        have c39b1 : decide (0 < t305.length) = true := decide_eq_true (by omega)
        clear c39
        replace H := Option.bind_eq_some_iff.mp H
        obtain ⟨t320, A400, H⟩ := H
        replace H : (if t320.size + 1 ≤ 9223372036854775807 then (some (t320 ++ (⟨#[42]⟩ : ByteArray))) else (none)) = some r := H
        have A40 := Aside0.mk A400
        clear A400
        by_cases c41 : t320.size + 1 ≤ 9223372036854775807
        ·rw [if_pos c41] at H
         have c41b0 := eq_true c41
         have c41b1 : decide (t320.size + 1 ≤ 9223372036854775807) = true := decide_eq_true c41
         try have c41b2 : (9223372036854775807 < t320.size + 1) = False := eq_false (Nat.not_lt.2 c41)
         obtain rfl := Option.some.inj H
         go_enter Tryd.func64, Tryd.ntmps64
         go_wp2_with (first | ((with_reducible refine gate_callee (f := 114) rfl ?_); refine goesS (some 5) Tryd.func114 #[.slice A0 l0.length c0] ?_; (with_reducible refine (impl_parts.calls k (fun k_ => k_ < w.heap.size) _ _ l0 t305 _ ?side1 A2.out).mono ?_); (case side1 => exact Kd.V_mk HC0.out (Kd.F_below (Kd.C_F k84_heap HR0.out) (bW))); rintro e w42 ⟨v306, rfl, ho0, hb⟩; refine ⟨_, rfl, ?_⟩; have n0_ := Aside0.mk (Kd.N_lower (Kd.N_mono (ok' := fun k_ => True) ho0 (fun k_ hk_ => trivial)) (below_size (bW))); have n1_ := Aside0.mk (below_step (bW) hb); clear HB; have HO307 := n0_; have HB := n1_; clear n0_ n1_; (try clear hb); (try clear hb2); (try clear hk); (try clear hi); (try clear ho0); have p308 : 0 ≤ (0 : Int) := (by omega); have q308 : 0 < (l0.length : Int) := ofD; obtain ⟨ad308, e308, hx308_0, hx308_1⟩ := at_T84 HR0.out 0 p308 q308; cases e308; have qi308 : (0 < l0.length) = True := eq_true (by omega); (try rw [show ((0 : Int)).toNat = 0 from rfl] at hx308_0); (try rw [show 0 * 2 = 0 from rfl] at hx308_0); (try rw [Addr.add_zero'] at hx308_0); (try rw [show ((0 : Int)).toNat = 0 from rfl] at hx308_1); (try rw [show 0 * 2 = 0 from rfl] at hx308_1); (try rw [Addr.add_zero'] at hx308_1); replace hx308_0 := (HB.out.cell (World.block_lt_of_cell? w _ hx308_0)).trans hx308_0; replace hx308_1 := (HB.out.cell (World.block_lt_of_cell? w _ hx308_1)).trans hx308_1; replace p308 := eq_true p308; replace q308 := eq_true q308; obtain ⟨Ao43, co43, eo43⟩ := Kd.N_slice HO307.out; subst eo43; have p319 : 0 ≤ (0 : Int) := (by omega); have q319 : 0 < (t305.length : Int) := ofD; obtain ⟨ad319, A319_0, c319_0, e319, hx319_0, hl319_0, hi319_0⟩ := at_L7 (Kd.N_reads' HO307.out).2.2 0 p319 q319; cases e319; obtain ⟨ce319, hce319, hMe319, hcc319⟩ := Kd.N_get HO307.out [] 0 p319 (by first | exact q319 | exact ofD | (have e_ := (Kd.N_reads' HO307.out).1; omega)); obtain ⟨ua319_0, uc319_0, rfl, ul319_0, ge319_0⟩ := Kd.FK_slice_open hMe319; have hv319_0 := hcc319 0 _ rfl; rw [Nat.add_zero, show ((Kd.slice 84 k84)).sz = 1 from rfl, Nat.mul_one] at hv319_0; replace hv319_0 := Option.some.inj (hv319_0.symm.trans hx319_0); injection hv319_0 with hva_ hvn_ hvc_; rw [hva_] at ge319_0; rw [hvc_] at ul319_0; have HL319_0 := Aside0.mk (show Kd.V k84 84 _ w.heap.size _ _ (rd_L7 t305 0) from Kd.V_mk ul319_0 ge319_0); clear hva_ hvn_ hvc_ ge319_0 ul319_0 hcc319 hce319; have qi319 : (0 < t305.length) = True := eq_true (by omega); (try rw [show ((0 : Int)).toNat = 0 from rfl] at hx319_0); (try rw [Addr.add_zero'] at hx319_0); have HR319_0 := Aside0.mk hi319_0; have HC319_0 := Aside0.mk hl319_0; clear hi319_0 hl319_0; replace p319 := eq_true p319; replace q319 := eq_true q319) | ((with_reducible refine gate_callee (f := 64) rfl ?_); refine goesS (some 52) Tryd.func64 #[.slice A319_0 (rd_L7 t305 0).length c319_0] ?_; (with_reducible refine (ih k (by omega) _ _ (rd_L7 t305 0) t320 _ ?side1 ?side2 A40.out).mono ?_); (case side1 => exact cP (by repeat (first | (with_reducible exact HR319_0.out) | (with_reducible refine Kd.C_alloc ?_ _) | (with_reducible refine Kd.C_drewN ?_ _) | (with_reducible refine Kd.C_drew ?_) | exact HR319_0.out))); (case side2 => exact HC319_0.out); rintro e w44 ⟨rfl, hb⟩; refine ⟨_, rfl, ?_⟩; have n0_ := Aside0.mk (Kd.N_below (by (with_reducible repeat (first | apply Kd.N_alloc | apply Kd.N_drewN | apply Kd.N_drew)); exact HO307.out) hb); have n1_ := Aside0.mk (Kd.V_below (by (with_reducible repeat (first | apply Kd.V_alloc | apply Kd.V_drewN | apply Kd.V_drew)); exact HL319_0.out) hb); have n2_ := Aside0.mk (Kd.C_below (by repeat (first | (with_reducible exact HR319_0.out) | (with_reducible refine Kd.C_alloc ?_ _) | (with_reducible refine Kd.C_drewN ?_ _) | (with_reducible refine Kd.C_drew ?_) | exact HR319_0.out)) hb); have n3_ := Aside0.mk (below_step (bW) hb); clear HO307 HL319_0 HR319_0 HB; have HO307 := n0_; have HL319_0 := n1_; have HR319_0 := n2_; have HB := n3_; clear n0_ n1_ n2_ n3_; (try clear hb); (try clear hb2); (try clear hk); (try clear hi)))
         go_ret
         exact ⟨eW, bW⟩
        ·rw [if_neg c41] at H
         exact absurd H (by simp)
       ·rw [if_neg c39] at H
        exact absurd H (by simp)
 ·rw [if_neg c3] at H
  exact absurd H (by simp)
end Go.Proofs.YthbaocejgjpfoaaDoor.P
end M0
section M1
namespace Go.Proofs.YthbaocejgjpfoaaDoor.P
open Go.RowKit Go.Proofs.YthbaocejgjpfoaaDoor.Sh Go.Proofs.YthbaocejgjpfoaaDoorW.PrintWords Go.Proofs.YthbaocejgjpfoaaDoorW.PrintLast Go.Proofs.YthbaocejgjpfoaaDoorW.PrintMore
attribute [local go_sem] max2_int min2_int max_two min_two max_three min_three max_four min_four   -- for this text's walks alone
set_option linter.unusedVariables false
set_option linter.unusedSimpArgs false
/-! ### impl_ExpressionText: function 23 -/
def impl_ExpressionText.f (k : Nat) (a0_0 : Int) (l0_1 : List Int) (l1 : List (S84)) : Option (ByteArray × Int) := (impl_IsExpression.f k a0_0 l0_1 l1).bind fun t322 => (if t322 = true then ((impl_expressionText.f k l1).bind fun t323 => (some (t323, 0))) else (some ((⟨#[]⟩ : ByteArray), 1)))
set_option maxHeartbeats 8000000 in
set_option maxRecDepth 100000 in
theorem impl_ExpressionText.calls (k : Nat) (a0_0 : Int) (A0_1 : Option Addr) (c0_1 : Nat) (l0_1 : List Int) (A1 : Option Addr) (c1 : Nat) (l1 : List (S84)) (r1 : ByteArray) (r2 : Int) (w : World) (hr0_1 : Kd.C (Kd.int .i64) w A0_1 l0_1.length l0_1) (hc0_1 : l0_1.length ≤ c0_1) (hr1 : Kd.C k84 w A1 l1.length l1) (hc1 : l1.length ≤ c1) (h : impl_ExpressionText.f k a0_0 l0_1 l1 = some (r1, r2)) (hTab : Tab w) :
  Calls Tryd.prog 23 #[.agg #[.int .i64 a0_0, .slice A0_1 l0_1.length c0_1], .slice A1 l1.length c1] w fun e w' => e = .returned (.tuple #[.string r1, .int .i64 r2]) ∧ Below w.heap.size w w' := by
 have HTab := Aside0.mk hTab
 clear hTab
 have hu29 := Tryd.underlying29
 have HR0_1 := Aside0.mk hr0_1
 have HC0_1 := Aside0.mk hc0_1
 clear hr0_1 hc0_1
 have HR1 := Aside0.mk hr1
 have HC1 := Aside0.mk hc1
 clear hr1 hc1
 have HB := Aside0.mk (Below.refl w.heap.size w)
 have H : ((impl_IsExpression.f k a0_0 l0_1 l1).bind fun t322 => (if t322 = true then ((impl_expressionText.f k l1).bind fun t323 => (some (t323, 0))) else (some ((⟨#[]⟩ : ByteArray), 1)))) = some (r1, r2) := h
 clear h
 replace H := Option.bind_eq_some_iff.mp H
 obtain ⟨t322, A30, H⟩ := H
 replace H : (if t322 = true then ((impl_expressionText.f k l1).bind fun t323 => (some (t323, 0))) else (some ((⟨#[]⟩ : ByteArray), 1))) = some (r1, r2) := H
 have A3 := Aside0.mk A30
 clear A30
 by_cases c4 : t322 = true
 ·subst c4
  have H1 : ((impl_expressionText.f k l1).bind fun t323 => (some (t323, 0))) = some (r1, r2) := by rw [if_pos rfl] at H; exact H
  clear H
  have H := H1
  clear H1
  replace H := Option.bind_eq_some_iff.mp H
  obtain ⟨t323, A50, H⟩ := H
  replace H : (some (t323, 0)) = some (r1, r2) := H
  have A5 := Aside0.mk A50
  clear A50
  simp only [Option.some.injEq, Prod.mk.injEq] at H
  obtain ⟨rfl, rfl⟩ := H
  go_enter Tryd.func23, Tryd.ntmps23
  go_wp2_with (first | ((with_reducible refine gate_dst (N := 2) rfl ?_); refine boxS (N := 2) (cs := #[.int .i64 a0_0, .slice A0_1 l0_1.length c0_1]) (t := 29) ?_; intro gb321 hg w6 hbox hb; have n0_ := Aside0.mk (below_step (bW) hb); have n1_ := Aside0.mk (hbox); have n2_ := geW (w := w) hg; have n3_ := geW (w := w) hg; clear HB; have HB := n0_; have BK321 := n1_; have GW321 := n2_; have GE321 := n3_; clear n0_ n1_ n2_ n3_ hb hbox hg; obtain ⟨hcz7_0, hcz7_1⟩ := cells2 BK321.out; obtain ⟨hfz7_0, hfz7_1⟩ := frz2 BK321.out) | ((with_reducible refine gate_callee (f := 51) rfl ?_); refine goesS (some 8) Tryd.func51 #[.agg #[.int .i64 a0_0, .slice A0_1 l0_1.length c0_1], .slice A1 l1.length c1] ?_; (with_reducible refine (impl_IsExpression.calls k a0_0 _ _ l0_1 _ _ l1 true _ ?side1 ?side2 ?side3 ?side4 A3.out (tabW HTab.out)).mono ?_); (case side1 => exact cP (Kd.C_below HR0_1.out HB.out)); (case side2 => exact HC0_1.out); (case side3 => exact cP (Kd.C_below HR1.out HB.out)); (case side4 => exact HC1.out); rintro e w8 ⟨rfl, hb⟩; refine ⟨_, rfl, ?_⟩; have n0_ := Aside0.mk (blkB BK321.out hb); have n1_ := Aside0.mk (below_step (bW) hb); clear BK321 HB; have BK321 := n0_; have HB := n1_; clear n0_ n1_; (try clear hb); (try clear hb2); (try clear hk); (try clear hi)) | ((with_reducible refine gate_callee (f := 64) rfl ?_); refine goesS (some 11) Tryd.func64 #[.slice A1 l1.length c1] ?_; (with_reducible refine (impl_expressionText.calls k _ _ l1 t323 _ ?side1 ?side2 A5.out).mono ?_); (case side1 => exact cP (Kd.C_below HR1.out HB.out)); (case side2 => exact HC1.out); rintro e w9 ⟨rfl, hb⟩; refine ⟨_, rfl, ?_⟩; have n0_ := Aside0.mk (blkB BK321.out hb); have n1_ := Aside0.mk (below_step (bW) hb); clear BK321 HB; have BK321 := n0_; have HB := n1_; clear n0_ n1_; (try clear hb); (try clear hb2); (try clear hk); (try clear hi)))
  go_ret2
  exact ⟨eW, bW⟩
 ·replace c4 := Bool.eq_false_iff.mpr c4
  subst c4
  have H1 : (some ((⟨#[]⟩ : ByteArray), 1)) = some (r1, r2) := by rw [if_neg (show ¬ (false = true) by decide)] at H; exact H
  clear H
  have H := H1
  clear H1
  simp only [Option.some.injEq, Prod.mk.injEq] at H
  obtain ⟨rfl, rfl⟩ := H
  go_enter Tryd.func23, Tryd.ntmps23
  go_wp2_with (first | ((with_reducible refine gate_dst (N := 2) rfl ?_); refine boxS (N := 2) (cs := #[.int .i64 a0_0, .slice A0_1 l0_1.length c0_1]) (t := 29) ?_; intro gb321 hg w10 hbox hb; have n0_ := Aside0.mk (below_step (bW) hb); have n1_ := Aside0.mk (hbox); have n2_ := geW (w := w) hg; have n3_ := geW (w := w) hg; clear HB; have HB := n0_; have BK321 := n1_; have GW321 := n2_; have GE321 := n3_; clear n0_ n1_ n2_ n3_ hb hbox hg; obtain ⟨hcz11_0, hcz11_1⟩ := cells2 BK321.out; obtain ⟨hfz11_0, hfz11_1⟩ := frz2 BK321.out) | ((with_reducible refine gate_callee (f := 51) rfl ?_); refine goesS (some 8) Tryd.func51 #[.agg #[.int .i64 a0_0, .slice A0_1 l0_1.length c0_1], .slice A1 l1.length c1] ?_; (with_reducible refine (impl_IsExpression.calls k a0_0 _ _ l0_1 _ _ l1 false _ ?side1 ?side2 ?side3 ?side4 A3.out (tabW HTab.out)).mono ?_); (case side1 => exact cP (Kd.C_below HR0_1.out HB.out)); (case side2 => exact HC0_1.out); (case side3 => exact cP (Kd.C_below HR1.out HB.out)); (case side4 => exact HC1.out); rintro e w12 ⟨rfl, hb⟩; refine ⟨_, rfl, ?_⟩; have n0_ := Aside0.mk (blkB BK321.out hb); have n1_ := Aside0.mk (below_step (bW) hb); clear BK321 HB; have BK321 := n0_; have HB := n1_; clear n0_ n1_; (try clear hb); (try clear hb2); (try clear hk); (try clear hi)))
  go_ret2
  exact ⟨eW, bW⟩
/-! ### laws_eqTerm: function 65 -/
/-! ### laws_eqTermS: function 24 -/
/-! ### laws_FnExactExpressionText: function 4 -/
/-! ### laws_szAutomaton: function 25 -/
/-! ### spec_l11States: function 101 -/
end Go.Proofs.YthbaocejgjpfoaaDoor.P
end M1
