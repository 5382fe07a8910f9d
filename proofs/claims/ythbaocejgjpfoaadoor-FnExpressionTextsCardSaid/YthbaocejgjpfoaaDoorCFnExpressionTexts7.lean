import Derived.ArgAppend
import Derived.Below
import Derived.BigQuiet
import Derived.Deep.AppendLies
import Derived.Deep.CutBlock
import Derived.Deep.DeepCutAuto
import Derived.Deep.Draws
import Derived.Deep.LoopGhost
import Derived.Deep.OwnRows
import Derived.Deep.QuietTactic
import Derived.Deep.RegionHeld3
import Derived.KernelRfl
import Derived.Laws.BitsLemmas
import Derived.Laws.BytesArg
import Derived.Laws.IdiomCopy
import Derived.Laws.MakeOwn
import Derived.Laws.OwnMore
import Derived.Laws.Rows
import Derived.Laws.Slices
import Derived.Laws.StructEq
import Derived.Lib.AppendStr
import Derived.Lib.ConvBytes
import Derived.Lib.SliceRun
import Derived.Maps.AppendAt
import Derived.OrdersHeld
import Derived.OwnWalk
import Derived.RowKit
import Derived.RowKit3
import Derived.Shelf.Abstract
import Derived.Shelf.Spec.TrailingZeros
import Derived.Tactics
import Derived.Test.YthbaocejgjpfoaaDoorProg
import Derived.WalkKit
import Derived.WideLaws
import Derived.Test.YthbaocejgjpfoaaDoorCFnExpressionTexts3
import Derived.Test.YthbaocejgjpfoaaDoorCFnExpressionTexts4
section M0
namespace Go.Proofs.YthbaocejgjpfoaaDoor.P
open Go.RowKit Go.Proofs.YthbaocejgjpfoaaDoor.Sh Go.Proofs.YthbaocejgjpfoaaDoorW.PrintWords Go.Proofs.YthbaocejgjpfoaaDoorW.PrintLast Go.Proofs.YthbaocejgjpfoaaDoorW.PrintMore
attribute [local go_sem] max2_int min2_int max_two min_two max_three min_three max_four min_four   -- for this text's walks alone
set_option linter.unusedVariables false
set_option linter.unusedSimpArgs false
/-! ### spec_l13Read: function 86 -/
mutual
def spec_l13Read.j2 : Nat → ByteArray → Int → List (S84) → Option ((List (S84)) × Int)
 | 0, _, _, _ => none
 | k + 1, x0, x1, x6 => spec_l13Read.l0 k x0 x1 x6
def spec_l13Read.l0 : Nat → ByteArray → Int → List (S84) → Option ((List (S84)) × Int)
 | 0, _, _, _ => none
 | k + 1, x0, x1, x6 => if x1 < (x0.size : Int) then (if 0 ≤ x1 then (if (bt x0 x1) = 42 then ((some (([(⟨5, 0⟩ : S84)] : List (S84)) : List (S84))).bind fun y815 => (if y815.length + x6.length < 8796093022208 then (spec_l13Read.l0 k x0 (wrap64 (x1 + 1)) (y815 ++ x6)) else (none))) else (some (x6, x1))) else (none)) else (some (x6, x1))
def spec_l13Read.j0 : Nat → ByteArray → Int → Int → Bool → Option ((List (S84)) × Int)
 | 0, _, _, _, _ => none
 | k + 1, x0, x1, x7, x35 => if x35 = true then (spec_l13Read.j2 k x0 x1 (([(⟨2, (x7 - 97) % 256⟩ : S84)] : List (S84)))) else (if x7 = 40 then ((spec_l13Read.f k x0 x1).bind fun bt785 => (if (bt785.1.length : Int) = 0 then (spec_l13Read.j1 k x0 x1 bt785.1 bt785.2 true) else (if bt785.2 ≥ (x0.size : Int) then (spec_l13Read.j1 k x0 x1 bt785.1 bt785.2 true) else (if 0 ≤ bt785.2 then (if bt785.2 < (x0.size : Int) then (if (bt x0 bt785.2) = 43 then (spec_l13Read.j1 k x0 x1 bt785.1 bt785.2 false) else (spec_l13Read.j1 k x0 x1 bt785.1 bt785.2 ((bt x0 bt785.2) != 46))) else (none)) else (none))))) else (some (([] : List (S84)), x1)))
def spec_l13Read.j1 : Nat → ByteArray → Int → List (S84) → Int → Bool → Option ((List (S84)) × Int)
 | 0, _, _, _, _, _ => none
 | k + 1, x0, x1, x8, x9, x76 => if x76 = true then (some (([] : List (S84)), x1)) else (if 0 ≤ x9 then (if x9 < (x0.size : Int) then (if (bt x0 x9) = 46 then ((spec_l13Read.f k x0 (wrap64 (x9 + 1))).bind fun bt789 => (if (bt789.1.length : Int) = 0 then (some (([] : List (S84)), x1)) else (if bt789.2 ≥ (x0.size : Int) then (some (([] : List (S84)), x1)) else (if 0 ≤ bt789.2 then (if bt789.2 < (x0.size : Int) then (if (bt x0 bt789.2) = 41 then ((some (([(⟨4, 0⟩ : S84)] : List (S84)) : List (S84))).bind fun y793 => (if y793.length + x8.length < 8796093022208 then ((some (y793 ++ x8 : List (S84))).bind fun y796 => (if y796.length + bt789.1.length < 8796093022208 then (spec_l13Read.j2 k x0 (wrap64 (bt789.2 + 1)) (y796 ++ bt789.1)) else (none))) else (none))) else (some (([] : List (S84)), x1))) else (none)) else (none))))) else ((spec_l13Read.f k x0 (wrap64 (x9 + 1))).bind fun bt802 => (if (bt802.1.length : Int) = 0 then (some (([] : List (S84)), x1)) else (if bt802.2 ≥ (x0.size : Int) then (some (([] : List (S84)), x1)) else (if 0 ≤ bt802.2 then (if bt802.2 < (x0.size : Int) then (if (bt x0 bt802.2) = 41 then ((some (([(⟨3, 0⟩ : S84)] : List (S84)) : List (S84))).bind fun y806 => (if y806.length + x8.length < 8796093022208 then ((some (y806 ++ x8 : List (S84))).bind fun y809 => (if y809.length + bt802.1.length < 8796093022208 then (spec_l13Read.j2 k x0 (wrap64 (bt802.2 + 1)) (y809 ++ bt802.1)) else (none))) else (none))) else (some (([] : List (S84)), x1))) else (none)) else (none)))))) else (none)) else (none))
def spec_l13Read.f : Nat → ByteArray → Int → Option ((List (S84)) × Int)
 | 0, _, _ => none
 | k + 1, a0, a1 => if a1 ≥ (a0.size : Int) then (some (([] : List (S84)), a1)) else (if 0 ≤ a1 then (if a1 < (a0.size : Int) then (if (bt a0 a1) = 48 then (spec_l13Read.j2 k a0 (wrap64 (a1 + 1)) (([(⟨0, 0⟩ : S84)] : List (S84)))) else (if (bt a0 a1) = 49 then (spec_l13Read.j2 k a0 (wrap64 (a1 + 1)) (([(⟨1, 0⟩ : S84)] : List (S84)))) else (if (bt a0 a1) ≥ 97 then (spec_l13Read.j0 k a0 (wrap64 (a1 + 1)) (bt a0 a1) (decide ((bt a0 a1) ≤ 104))) else (spec_l13Read.j0 k a0 (wrap64 (a1 + 1)) (bt a0 a1) false)))) else (none)) else (none))
end
set_option maxHeartbeats 8000000 in
set_option maxRecDepth 100000 in
theorem spec_l13Read.calls (k : Nat) : ∀ (a0 : ByteArray) (a1 : Int) (r1 : List (S84)) (r2 : Int) (w : World) (h : spec_l13Read.f k a0 a1 = some (r1, r2)),
  Calls Tryd.prog 86 #[.string a0, .int .i64 a1] w fun e w' => ∃ v0_ : Value, e = .returned (.tuple #[v0_, .int .i64 r2]) ∧ Kd.R k84 84 w' w.heap.size (fun _ => True) v0_ r1 ∧ Below w.heap.size w w' := by
 induction k using Nat.strongRecOn with
 | _ k ih =>
 intro a0 a1 r1 r2 w h
 cases k with
 | zero => exact absurd h (by simp [spec_l13Read.f])
 | succ k =>
 simp only [spec_l13Read.f] at h
 have hu84 := Tryd.underlying84
 have HB := Aside0.mk (Below.refl w.heap.size w)
 have H : (if a1 ≥ (a0.size : Int) then (some (([] : List (S84)), a1)) else (if 0 ≤ a1 then (if a1 < (a0.size : Int) then (if (bt a0 a1) = 48 then (spec_l13Read.j2 k a0 (wrap64 (a1 + 1)) (([(⟨0, 0⟩ : S84)] : List (S84)))) else (if (bt a0 a1) = 49 then (spec_l13Read.j2 k a0 (wrap64 (a1 + 1)) (([(⟨1, 0⟩ : S84)] : List (S84)))) else (if (bt a0 a1) ≥ 97 then (spec_l13Read.j0 k a0 (wrap64 (a1 + 1)) (bt a0 a1) (decide ((bt a0 a1) ≤ 104))) else (spec_l13Read.j0 k a0 (wrap64 (a1 + 1)) (bt a0 a1) false)))) else (none)) else (none))) = some (r1, r2) := h
 clear h
 by_cases c3 : a1 ≥ (a0.size : Int)
 ·rw [if_pos c3] at H
  have c3b0 : decide ((a0.size : Int) ≤ a1) = true := decide_eq_true c3
  clear c3
  simp only [Option.some.injEq, Prod.mk.injEq] at H
  obtain ⟨rfl, rfl⟩ := H
  go_enter Tryd.func86, Tryd.ntmps86
  go_wp2
  go_ret2
  exact ⟨_, eW, by first | exact Kd.R_nil _ _ _ _ _ | exact Kd.N_nil _ _ _ _ _ | exact Kd.V_nil _ _ _ _ _ | exact Kd.Q_nil _ _ _ _ _ | exact Kd.S_nil _ _ _ _ _, bW⟩
 ·rw [if_neg c3] at H
  have c3b0 : decide ((a0.size : Int) ≤ a1) = false := decide_eq_false c3
  clear c3
  obtain ⟨y773, hy773⟩ : ∃ y_ : List (S84), y_ = (([] : List (S84))) := ⟨_, rfl⟩
  replace H : (if 0 ≤ a1 then (if a1 < (a0.size : Int) then (if (bt a0 a1) = 48 then (spec_l13Read.j2 k a0 (wrap64 (a1 + 1)) (([(⟨0, 0⟩ : S84)] : List (S84)))) else (if (bt a0 a1) = 49 then (spec_l13Read.j2 k a0 (wrap64 (a1 + 1)) (([(⟨1, 0⟩ : S84)] : List (S84)))) else (if (bt a0 a1) ≥ 97 then (spec_l13Read.j0 k a0 (wrap64 (a1 + 1)) (bt a0 a1) (decide ((bt a0 a1) ≤ 104))) else (spec_l13Read.j0 k a0 (wrap64 (a1 + 1)) (bt a0 a1) false)))) else (none)) else (none)) = some (r1, r2) := by first | (rw [hy773]; with_reducible exact H) | (have H2_ := (Option.bind_some _ _).symm.trans H; rw [hy773]; with_reducible exact H2_) | (have H2_ := (Option.bind_some _ _).symm.trans H; with_reducible exact H2_) | with_reducible exact H | (rw [hy773]; exact H) | exact H
  have Ny773 := Aside0.mk hy773
  clear hy773
  by_cases c4 : 0 ≤ a1
  ·rw [if_pos c4] at H
   have c4b0 : decide (0 ≤ a1) = true := decide_eq_true c4
   clear c4
   by_cases c5 : a1 < (a0.size : Int)
   ·rw [if_pos c5] at H
    have c5b0 : decide (a1 < (a0.size : Int)) = true := decide_eq_true c5
    clear c5
    have HC7 := Aside0.mk H
    clear H
    go_enter Tryd.func86, Tryd.ntmps86
    go_upto_block 0 with (first | ((with_reducible refine gate_dst (N := 18) rfl ?_); (try (refine gate_guard (by rfl) ?_; dsimp only)); refine Kd.R_lit k84 _ 84 ?hg (N := 18) ?hd (xs := ([] : List (S84))) (inner := []) (ok := fun _ => True) (okp := fun _ => True) ?hr ?hp (fun _ hk => hk) trivial (Below.refl _ _) (Nat.le_refl _) (by simp) ?_; (case hd => rfl); (case hg => rfl); (case hr => first | (go_simp; done) | (go_simp; rfl)); (case hp => exact (Reps.none _ _)); intro v774 w8 ho9 hb hg_ hnew_; clear hg_ hnew_; (first | rw [← Ny773.out] at ho9 | (simp only [Int.reduceToNat] at ho9; rw [← Ny773.out] at ho9)); have n0_ := Aside0.mk (Kd.R_lower ho9 (below_size (bW))); have n1_ := Aside0.mk (below_step (bW) hb); clear HB; have HO775 := n0_; have HB := n1_; clear n0_ n1_ hb ho9; have p6 : 0 ≤ (a1 : Int) := ofD; have q6 : a1 < (a0.size : Int) := ofD; have hx6 := bt_at a0 a1; replace p6 := eq_true p6; replace q6 := eq_true q6))
    (try simp only [Act.put, List.setIfInBounds_toArray, List.set_cons_zero, List.set_cons_succ])
    go_cut [1, 6] (fun v1 v6 wc => ∃ (kq : Nat) (x1_6 : Int) (x6_6 : List (S84)), v1 = .int .i64 x1_6 ∧ Aside0 (spec_l13Read.j2 kq a0 x1_6 x6_6 = some (r1, r2)) ∧ Aside0 (kq ≤ k) ∧ Aside0 (Kd.R k84 84 wc w.heap.size (fun _ => True) v6 x6_6) ∧ Aside0 (Below w.heap.size w wc))
    case first =>
     have H := HC7.out
     clear HC7
     by_cases c10 : (bt a0 a1) = 48
     ·rw [if_pos c10] at H
      have c10b0 : ((bt a0 a1) == 48) = true := beq_iff_eq.mpr c10
      have c10b1 : ((bt a0 a1) != 48) = false := bne_eq_false_iff_eq.mpr c10
      clear c10
      (first | rw [c10b0] | (simp only [i64_w, i32_w]; rw [c10b0]) | skip)
      obtain ⟨y776, hy776⟩ : ∃ y_ : List (S84), y_ = (([(⟨0, 0⟩ : S84)] : List (S84))) := ⟨_, rfl⟩
      replace H : (spec_l13Read.j2 k a0 (wrap64 (a1 + 1)) y776) = some (r1, r2) := by first | (rw [hy776]; with_reducible exact H) | (have H2_ := (Option.bind_some _ _).symm.trans H; rw [hy776]; with_reducible exact H2_) | (have H2_ := (Option.bind_some _ _).symm.trans H; with_reducible exact H2_) | with_reducible exact H | (rw [hy776]; exact H) | exact H
      have Ny776 := Aside0.mk hy776
      clear hy776
      have H' := Aside0.mk H
      clear H
      go_wp2_with (first | ((with_reducible refine gate_dst (N := 29) rfl ?_); (try (refine gate_guard (by rfl) ?_; dsimp only)); refine Kd.R_lit k84 _ 84 ?hg (N := 29) ?hd (xs := ([(⟨0, 0⟩ : S84)] : List (S84))) (inner := [.int .i64 0, .int .i64 0]) (ok := fun _ => True) (okp := fun _ => True) ?hr ?hp (fun _ hk => hk) trivial (Below.refl _ _) (Nat.le_refl _) (by simp) ?_; (case hd => rfl); (case hg => rfl); (case hr => first | (go_simp; done) | (go_simp; rfl)); (case hp => exact (Reps.c2 (show Kd.M k84 _ _ _ (⟨0, 0⟩ : S84) [.int .i64 0, .int .i64 0] from (k84_mkM _ _ _ (⟨0, 0⟩ : S84) )) (Reps.none _ _))); intro v777 w11 ho12 hb hg_ hnew_; clear hg_ hnew_; (first | rw [← Ny776.out] at ho12 | (simp only [Int.reduceToNat] at ho12; rw [← Ny776.out] at ho12)); have n0_ := Aside0.mk (Kd.R_elder' (rP HO775.out) (Kd.R_base ho12) hb); have n1_ := Aside0.mk (Kd.R_lower (Kd.R_new' ho12 (Kd.R_lt (rP HO775.out))) (below_size (bW))); have n2_ := Aside0.mk (below_step (bW) hb); clear HO775 HB; have HO775 := n0_; have HO778 := n1_; have HB := n2_; clear n0_ n1_ n2_ hb ho12))
      go_meet
      case rel => exact ⟨_, (wrap64 (a1 + 1)), (y776), (eW), H', ⟨by first | omega | exact Nat.le_refl _⟩, ⟨by (with_reducible repeat (first | apply Kd.R_alloc | apply Kd.R_drewN | apply Kd.R_drew)); exact Kd.R_mono HO778.out (fun _ hk => trivial)⟩, ⟨bW⟩⟩
     ·rw [if_neg c10] at H
      have c10b0 : ((bt a0 a1) == 48) = false := beq_eq_false_iff_ne.mpr c10
      have c10b1 : ((bt a0 a1) != 48) = true := bne_iff_ne.mpr c10
      (first | rw [c10b0] | (simp only [i64_w, i32_w]; rw [c10b0]) | skip)
      by_cases c13 : (bt a0 a1) = 49
      ·rw [if_pos c13] at H
       have c13b0 : ((bt a0 a1) == 49) = true := beq_iff_eq.mpr c13
       have c13b1 : ((bt a0 a1) != 49) = false := bne_eq_false_iff_eq.mpr c13
       clear c13
       obtain ⟨y779, hy779⟩ : ∃ y_ : List (S84), y_ = (([(⟨1, 0⟩ : S84)] : List (S84))) := ⟨_, rfl⟩
       replace H : (spec_l13Read.j2 k a0 (wrap64 (a1 + 1)) y779) = some (r1, r2) := by first | (rw [hy779]; with_reducible exact H) | (have H2_ := (Option.bind_some _ _).symm.trans H; rw [hy779]; with_reducible exact H2_) | (have H2_ := (Option.bind_some _ _).symm.trans H; with_reducible exact H2_) | with_reducible exact H | (rw [hy779]; exact H) | exact H
       have Ny779 := Aside0.mk hy779
       clear hy779
       have H' := Aside0.mk H
       clear H
       go_wp2_with (first | ((with_reducible refine gate_dst (N := 34) rfl ?_); (try (refine gate_guard (by rfl) ?_; dsimp only)); refine Kd.R_lit k84 _ 84 ?hg (N := 34) ?hd (xs := ([(⟨1, 0⟩ : S84)] : List (S84))) (inner := [.int .i64 1, .int .i64 0]) (ok := fun _ => True) (okp := fun _ => True) ?hr ?hp (fun _ hk => hk) trivial (Below.refl _ _) (Nat.le_refl _) (by simp) ?_; (case hd => rfl); (case hg => rfl); (case hr => first | (go_simp; done) | (go_simp; rfl)); (case hp => exact (Reps.c2 (show Kd.M k84 _ _ _ (⟨1, 0⟩ : S84) [.int .i64 1, .int .i64 0] from (k84_mkM _ _ _ (⟨1, 0⟩ : S84) )) (Reps.none _ _))); intro v780 w14 ho15 hb hg_ hnew_; clear hg_ hnew_; (first | rw [← Ny779.out] at ho15 | (simp only [Int.reduceToNat] at ho15; rw [← Ny779.out] at ho15)); have n0_ := Aside0.mk (Kd.R_elder' (rP HO775.out) (Kd.R_base ho15) hb); have n1_ := Aside0.mk (Kd.R_lower (Kd.R_new' ho15 (Kd.R_lt (rP HO775.out))) (below_size (bW))); have n2_ := Aside0.mk (below_step (bW) hb); clear HO775 HB; have HO775 := n0_; have HO781 := n1_; have HB := n2_; clear n0_ n1_ n2_ hb ho15))
       go_meet
       case rel => exact ⟨_, (wrap64 (a1 + 1)), (y779), (eW), H', ⟨by first | omega | exact Nat.le_refl _⟩, ⟨by (with_reducible repeat (first | apply Kd.R_alloc | apply Kd.R_drewN | apply Kd.R_drew)); exact Kd.R_mono HO781.out (fun _ hk => trivial)⟩, ⟨bW⟩⟩
      ·rw [if_neg c13] at H
       have c13b0 : ((bt a0 a1) == 49) = false := beq_eq_false_iff_ne.mpr c13
       have c13b1 : ((bt a0 a1) != 49) = true := bne_iff_ne.mpr c13
       have HC16 := Aside0.mk H
       clear H
       go_upto_region 11 with (fail)
       go_cut [35] (fun v35 wc => ∃ (kq : Nat) (x35_15 : Bool), v35 = .bool x35_15 ∧ Aside0 (spec_l13Read.j0 kq a0 (wrap64 (a1 + 1)) (bt a0 a1) x35_15 = some (r1, r2)) ∧ Aside0 (kq ≤ k) ∧ Aside0 (Below w.heap.size w wc))
       case first =>
        have H := HC16.out
        clear HC16
        by_cases c17 : (bt a0 a1) ≥ 97
        ·rw [if_pos c17] at H
         have c17b0 : decide (97 ≤ (bt a0 a1)) = true := decide_eq_true c17
         clear c17
         (first | rw [c17b0] | (simp only [i64_w, i32_w]; rw [c17b0]) | skip)
         have H' := Aside0.mk H
         clear H
         go_wp2
         go_meet
         case rel => exact ⟨_, (decide ((bt a0 a1) ≤ 104)), (eW), H', ⟨by first | omega | exact Nat.le_refl _⟩, ⟨bW⟩⟩
        ·rw [if_neg c17] at H
         have c17b0 : decide (97 ≤ (bt a0 a1)) = false := decide_eq_false c17
         clear c17
         (first | rw [c17b0] | (simp only [i64_w, i32_w]; rw [c17b0]) | skip)
         have H' := Aside0.mk H
         clear H
         go_wp2
         go_meet
         case rel => exact ⟨_, (false), (eW), H', ⟨by first | omega | exact Nat.le_refl _⟩, ⟨bW⟩⟩
       case rest =>
        clear HC16
        try clear c1
        try clear c2
        try clear p2
        try clear c3
        try clear c3b0
        try clear c4
        try clear c4b0
        try clear c5
        try clear c5b0
        try clear p6
        try clear q6
        try clear hx6
        try clear c8
        try clear c10
        try clear c10b0
        try clear c10b1
        try clear c13
        try clear c13b0
        try clear c13b1
        try clear c17
        try clear c17b0
        try clear p6
        try clear q6
        obtain ⟨kq, x35_15, rfl, HA, HJ15, HB⟩ := hcut
        cases kq with
        | zero => exact absurd HA.out (by simp [spec_l13Read.j0])
        | succ kj15 =>
         have H := HA.out
         clear HA
         simp only [spec_l13Read.j0] at H
         by_cases c18 : x35_15 = true
         ·subst c18
          have H1 : (spec_l13Read.j2 kj15 a0 (wrap64 (a1 + 1)) (([(⟨2, ((bt a0 a1) - 97) % 256⟩ : S84)] : List (S84)))) = some (r1, r2) := by rw [if_pos rfl] at H; exact H
          clear H
          have H := H1
          clear H1
          obtain ⟨y782, hy782⟩ : ∃ y_ : List (S84), y_ = (([(⟨2, ((bt a0 a1) - 97) % 256⟩ : S84)] : List (S84))) := ⟨_, rfl⟩
          replace H : (spec_l13Read.j2 kj15 a0 (wrap64 (a1 + 1)) y782) = some (r1, r2) := by first | (rw [hy782]; with_reducible exact H) | (have H2_ := (Option.bind_some _ _).symm.trans H; rw [hy782]; with_reducible exact H2_) | (have H2_ := (Option.bind_some _ _).symm.trans H; with_reducible exact H2_) | with_reducible exact H | (rw [hy782]; exact H) | exact H
          have Ny782 := Aside0.mk hy782
          clear hy782
          have H' := Aside0.mk H
          clear H
          go_wp2_with (first | ((with_reducible refine gate_dst (N := 46) rfl ?_); (try (refine gate_guard (by rfl) ?_; dsimp only)); refine Kd.R_lit k84 _ 84 ?hg (N := 46) ?hd (xs := ([(⟨2, ((bt a0 a1) - 97) % 256⟩ : S84)] : List (S84))) (inner := [.int .i64 2, .int .i64 (((bt a0 a1) - 97) % 256)]) (ok := fun _ => True) (okp := fun _ => True) ?hr ?hp (fun _ hk => hk) trivial (Below.refl _ _) (Nat.le_refl _) (by simp) ?_; (case hd => rfl); (case hg => rfl); (case hr => first | (go_simp; done) | (go_simp; rfl)); (case hp => exact (Reps.c2 (show Kd.M k84 _ _ _ (⟨2, ((bt a0 a1) - 97) % 256⟩ : S84) [.int .i64 2, .int .i64 (((bt a0 a1) - 97) % 256)] from (k84_mkM _ _ _ (⟨2, ((bt a0 a1) - 97) % 256⟩ : S84) )) (Reps.none _ _))); intro v783 w19 ho20 hb hg_ hnew_; clear hg_ hnew_; (first | rw [← Ny782.out] at ho20 | (simp only [Int.reduceToNat] at ho20; rw [← Ny782.out] at ho20)); have n0_ := Aside0.mk (Kd.R_lower ho20 (below_size (bW))); have n1_ := Aside0.mk (below_step (bW) hb); clear HB; have HO784 := n0_; have HB := n1_; clear n0_ n1_ hb ho20))
          go_meet
          case rel => exact ⟨_, ((wrap64 (a1 + 1))), (y782), (eW), H', ⟨by have := HJ15.out; first | omega | exact Nat.le_refl _⟩, ⟨(rP HO784.out)⟩, ⟨bW⟩⟩
         ·replace c18 := Bool.eq_false_iff.mpr c18
          subst c18
          have H1 : (if (bt a0 a1) = 40 then ((spec_l13Read.f kj15 a0 (wrap64 (a1 + 1))).bind fun bt785 => (if (bt785.1.length : Int) = 0 then (spec_l13Read.j1 kj15 a0 (wrap64 (a1 + 1)) bt785.1 bt785.2 true) else (if bt785.2 ≥ (a0.size : Int) then (spec_l13Read.j1 kj15 a0 (wrap64 (a1 + 1)) bt785.1 bt785.2 true) else (if 0 ≤ bt785.2 then (if bt785.2 < (a0.size : Int) then (if (bt a0 bt785.2) = 43 then (spec_l13Read.j1 kj15 a0 (wrap64 (a1 + 1)) bt785.1 bt785.2 false) else (spec_l13Read.j1 kj15 a0 (wrap64 (a1 + 1)) bt785.1 bt785.2 ((bt a0 bt785.2) != 46))) else (none)) else (none))))) else (some (([] : List (S84)), (wrap64 (a1 + 1))))) = some (r1, r2) := by rw [if_neg (show ¬ (false = true) by decide)] at H; exact H
          clear H
          have H := H1
          clear H1
          by_cases c21 : (bt a0 a1) = 40
          ·rw [if_pos c21] at H
           have c21b0 : ((bt a0 a1) == 40) = true := beq_iff_eq.mpr c21
           have c21b1 : ((bt a0 a1) != 40) = false := bne_eq_false_iff_eq.mpr c21
           clear c21
           replace H := Option.bind_eq_some_iff.mp H
           obtain ⟨⟨t785, t786⟩, A220, H⟩ := H
           replace H : (if (t785.length : Int) = 0 then (spec_l13Read.j1 kj15 a0 (wrap64 (a1 + 1)) t785 t786 true) else (if t786 ≥ (a0.size : Int) then (spec_l13Read.j1 kj15 a0 (wrap64 (a1 + 1)) t785 t786 true) else (if 0 ≤ t786 then (if t786 < (a0.size : Int) then (if (bt a0 t786) = 43 then (spec_l13Read.j1 kj15 a0 (wrap64 (a1 + 1)) t785 t786 false) else (spec_l13Read.j1 kj15 a0 (wrap64 (a1 + 1)) t785 t786 ((bt a0 t786) != 46))) else (none)) else (none)))) = some (r1, r2) := H
           have A22 := Aside0.mk A220
           clear A220
           have HC23 := Aside0.mk H
           clear H
           go_upto_region 15 with (first | ((with_reducible refine gate_callee (f := 86) rfl ?_); refine goesS (some 53) Tryd.func86 #[.string a0, .int .i64 (wrap64 (a1 + 1))] ?_; (with_reducible refine (ih kj15 (by have := HJ15.out; omega) a0 (wrap64 (a1 + 1)) t785 t786 _ A22.out).mono ?_); rintro e w24 ⟨v787, rfl, ho0, hb⟩; refine ⟨_, rfl, ?_⟩; have n0_ := Aside0.mk (Kd.R_lower ho0 (below_size (bW))); have n1_ := Aside0.mk (below_step (bW) hb); clear HB; have HO788 := n0_; have HB := n1_; clear n0_ n1_; (try clear hb); (try clear hb2); (try clear hk); (try clear hi); (try clear ho0)))
           (try simp only [Act.put, List.setIfInBounds_toArray, List.set_cons_zero, List.set_cons_succ])
           go_cut [76] (fun v76 wc => ∃ (kq : Nat) (x76_22 : Bool), v76 = .bool x76_22 ∧ Aside0 (spec_l13Read.j1 kq a0 (wrap64 (a1 + 1)) t785 t786 x76_22 = some (r1, r2)) ∧ Aside0 (kq ≤ kj15) ∧ Aside0 (Kd.R k84 84 wc w.heap.size (fun _ => True) v787 t785) ∧ Aside0 (Below w.heap.size w wc))
           case first =>
            have H := HC23.out
            clear HC23
            by_cases c25 : (t785.length : Int) = 0
            ·rw [if_pos c25] at H
             have c25b0 : ((t785.length : Int) == 0) = true := beq_iff_eq.mpr c25
             have c25b1 : ((t785.length : Int) != 0) = false := bne_eq_false_iff_eq.mpr c25
             clear c25
             (first | rw [c25b0] | (simp only [i64_w, i32_w]; rw [c25b0]) | skip)
             have H' := Aside0.mk H
             clear H
             obtain ⟨Ao26, co26, eo26⟩ := Kd.R_slice HO788.out
             subst eo26
             go_wp2
             go_meet
             case rel => exact ⟨_, (true), (eW), H', ⟨by have := HJ15.out; first | omega | exact Nat.le_refl _⟩, ⟨(rP HO788.out)⟩, ⟨bW⟩⟩
            ·rw [if_neg c25] at H
             have c25b0 : ((t785.length : Int) == 0) = false := beq_eq_false_iff_ne.mpr c25
             have c25b1 : ((t785.length : Int) != 0) = true := bne_iff_ne.mpr c25
             have c25b2 : ¬ (t785 = []) := fun h_ => c25 (by rw [h_]; rfl)
             (first | rw [c25b0] | (simp only [i64_w, i32_w]; rw [c25b0]) | skip)
             by_cases c27 : t786 ≥ (a0.size : Int)
             ·rw [if_pos c27] at H
              have c27b0 : decide ((a0.size : Int) ≤ t786) = true := decide_eq_true c27
              clear c27
              have H' := Aside0.mk H
              clear H
              obtain ⟨Ao28, co28, eo28⟩ := Kd.R_slice HO788.out
              subst eo28
              go_wp2
              go_meet
              case rel => exact ⟨_, (true), (eW), H', ⟨by have := HJ15.out; first | omega | exact Nat.le_refl _⟩, ⟨(rP HO788.out)⟩, ⟨bW⟩⟩
             ·rw [if_neg c27] at H
              have c27b0 : decide ((a0.size : Int) ≤ t786) = false := decide_eq_false c27
              clear c27
              by_cases c29 : 0 ≤ t786
              ·rw [if_pos c29] at H
               have c29b0 : decide (0 ≤ t786) = true := decide_eq_true c29
               clear c29
               by_cases c30 : t786 < (a0.size : Int)
               ·rw [if_pos c30] at H
                have c30b0 : decide (t786 < (a0.size : Int)) = true := decide_eq_true c30
                clear c30
                by_cases c32 : (bt a0 t786) = 43
                ·rw [if_pos c32] at H
                 have c32b0 : ((bt a0 t786) == 43) = true := beq_iff_eq.mpr c32
                 have c32b1 : ((bt a0 t786) != 43) = false := bne_eq_false_iff_eq.mpr c32
                 clear c32
                 have H' := Aside0.mk H
                 clear H
                 obtain ⟨Ao33, co33, eo33⟩ := Kd.R_slice HO788.out
                 subst eo33
                 have p31 : 0 ≤ (t786 : Int) := ofD
                 have q31 : t786 < (a0.size : Int) := ofD
                 have hx31 := bt_at a0 t786
                 replace p31 := eq_true p31
                 replace q31 := eq_true q31
                 go_wp2
                 go_meet
                 case rel => exact ⟨_, (false), (eW), H', ⟨by have := HJ15.out; first | omega | exact Nat.le_refl _⟩, ⟨(rP HO788.out)⟩, ⟨bW⟩⟩
                ·rw [if_neg c32] at H
                 have c32b0 : ((bt a0 t786) == 43) = false := beq_eq_false_iff_ne.mpr c32
                 have c32b1 : ((bt a0 t786) != 43) = true := bne_iff_ne.mpr c32
                 have H' := Aside0.mk H
                 clear H
                 obtain ⟨Ao35, co35, eo35⟩ := Kd.R_slice HO788.out
                 subst eo35
                 have p31 : 0 ≤ (t786 : Int) := ofD
                 have q31 : t786 < (a0.size : Int) := ofD
                 have hx31 := bt_at a0 t786
                 replace p31 := eq_true p31
                 replace q31 := eq_true q31
                 have p34 : 0 ≤ (t786 : Int) := ofD
                 have q34 : t786 < (a0.size : Int) := ofD
                 have hx34 := bt_at a0 t786
                 replace p34 := eq_true p34
                 replace q34 := eq_true q34
                 go_wp2
                 go_meet
                 case rel => exact ⟨_, (((bt a0 t786) != 46)), (eW), H', ⟨by have := HJ15.out; first | omega | exact Nat.le_refl _⟩, ⟨(rP HO788.out)⟩, ⟨bW⟩⟩
               ·rw [if_neg c30] at H
                exact absurd H (by simp)
              ·rw [if_neg c29] at H
               exact absurd H (by simp)
           case rest =>
            clear HC23
            try clear c1
            try clear c2
            try clear p2
            try clear c3
            try clear c3b0
            try clear p3
            try clear q3
            try clear hx3
            try clear c4
            try clear c4b0
            try clear c5
            try clear c5b0
            try clear p6
            try clear q6
            try clear hx6
            try clear c8
            try clear c10
            try clear c10b0
            try clear c10b1
            try clear c13
            try clear c13b0
            try clear c13b1
            try clear c17
            try clear c17b0
            try clear c18
            try clear c21
            try clear c21b0
            try clear c21b1
            try clear c25
            try clear c25b0
            try clear c25b1
            try clear c25b2
            try clear c27
            try clear c27b0
            try clear c29
            try clear c29b0
            try clear c30
            try clear c30b0
            try clear p31
            try clear q31
            try clear hx31
            try clear c32
            try clear c32b0
            try clear c32b1
            try clear p34
            try clear q34
            try clear hx34
            try clear p2
            try clear p31
            try clear p34
            try clear p6
            try clear q31
            try clear q34
            try clear q6
            obtain ⟨kq, x76_22, rfl, HA, HJ22, HO_8, HB⟩ := hcut
            cases kq with
            | zero => exact absurd HA.out (by simp [spec_l13Read.j1])
            | succ kj22 =>
             have H := HA.out
             clear HA
             simp only [spec_l13Read.j1] at H
             by_cases c36 : x76_22 = true
             ·subst c36
              have H1 : (some (([] : List (S84)), (wrap64 (a1 + 1)))) = some (r1, r2) := by rw [if_pos rfl] at H; exact H
              clear H
              have H := H1
              clear H1
              simp only [Option.some.injEq, Prod.mk.injEq] at H
              obtain ⟨rfl, rfl⟩ := H
              go_wp2
              go_ret2
              exact ⟨_, eW, by first | exact Kd.R_nil _ _ _ _ _ | exact Kd.N_nil _ _ _ _ _ | exact Kd.V_nil _ _ _ _ _ | exact Kd.Q_nil _ _ _ _ _ | exact Kd.S_nil _ _ _ _ _, bW⟩
             ·replace c36 := Bool.eq_false_iff.mpr c36
              subst c36
              have H1 : (if 0 ≤ t786 then (if t786 < (a0.size : Int) then (if (bt a0 t786) = 46 then ((spec_l13Read.f kj22 a0 (wrap64 (t786 + 1))).bind fun bt789 => (if (bt789.1.length : Int) = 0 then (some (([] : List (S84)), (wrap64 (a1 + 1)))) else (if bt789.2 ≥ (a0.size : Int) then (some (([] : List (S84)), (wrap64 (a1 + 1)))) else (if 0 ≤ bt789.2 then (if bt789.2 < (a0.size : Int) then (if (bt a0 bt789.2) = 41 then ((some (([(⟨4, 0⟩ : S84)] : List (S84)) : List (S84))).bind fun y793 => (if y793.length + t785.length < 8796093022208 then ((some (y793 ++ t785 : List (S84))).bind fun y796 => (if y796.length + bt789.1.length < 8796093022208 then (spec_l13Read.j2 kj22 a0 (wrap64 (bt789.2 + 1)) (y796 ++ bt789.1)) else (none))) else (none))) else (some (([] : List (S84)), (wrap64 (a1 + 1))))) else (none)) else (none))))) else ((spec_l13Read.f kj22 a0 (wrap64 (t786 + 1))).bind fun bt802 => (if (bt802.1.length : Int) = 0 then (some (([] : List (S84)), (wrap64 (a1 + 1)))) else (if bt802.2 ≥ (a0.size : Int) then (some (([] : List (S84)), (wrap64 (a1 + 1)))) else (if 0 ≤ bt802.2 then (if bt802.2 < (a0.size : Int) then (if (bt a0 bt802.2) = 41 then ((some (([(⟨3, 0⟩ : S84)] : List (S84)) : List (S84))).bind fun y806 => (if y806.length + t785.length < 8796093022208 then ((some (y806 ++ t785 : List (S84))).bind fun y809 => (if y809.length + bt802.1.length < 8796093022208 then (spec_l13Read.j2 kj22 a0 (wrap64 (bt802.2 + 1)) (y809 ++ bt802.1)) else (none))) else (none))) else (some (([] : List (S84)), (wrap64 (a1 + 1))))) else (none)) else (none)))))) else (none)) else (none)) = some (r1, r2) := by rw [if_neg (show ¬ (false = true) by decide)] at H; exact H
              clear H
              have H := H1
              clear H1
              by_cases c37 : 0 ≤ t786
              ·rw [if_pos c37] at H
               have c37b0 : decide (0 ≤ t786) = true := decide_eq_true c37
               clear c37
               by_cases c38 : t786 < (a0.size : Int)
               ·rw [if_pos c38] at H
                have c38b0 : decide (t786 < (a0.size : Int)) = true := decide_eq_true c38
                clear c38
                by_cases c40 : (bt a0 t786) = 46
                ·rw [if_pos c40] at H
                 have c40b0 : ((bt a0 t786) == 46) = true := beq_iff_eq.mpr c40
                 have c40b1 : ((bt a0 t786) != 46) = false := bne_eq_false_iff_eq.mpr c40
                 clear c40
                 replace H := Option.bind_eq_some_iff.mp H
                 obtain ⟨⟨t789, t790⟩, A410, H⟩ := H
                 replace H : (if (t789.length : Int) = 0 then (some (([] : List (S84)), (wrap64 (a1 + 1)))) else (if t790 ≥ (a0.size : Int) then (some (([] : List (S84)), (wrap64 (a1 + 1)))) else (if 0 ≤ t790 then (if t790 < (a0.size : Int) then (if (bt a0 t790) = 41 then ((some (([(⟨4, 0⟩ : S84)] : List (S84)) : List (S84))).bind fun y793 => (if y793.length + t785.length < 8796093022208 then ((some (y793 ++ t785 : List (S84))).bind fun y796 => (if y796.length + t789.length < 8796093022208 then (spec_l13Read.j2 kj22 a0 (wrap64 (t790 + 1)) (y796 ++ t789)) else (none))) else (none))) else (some (([] : List (S84)), (wrap64 (a1 + 1))))) else (none)) else (none)))) = some (r1, r2) := H
                 have A41 := Aside0.mk A410
                 clear A410
                 by_cases c42 : (t789.length : Int) = 0
                 ·rw [if_pos c42] at H
                  have c42b0 : ((t789.length : Int) == 0) = true := beq_iff_eq.mpr c42
                  have c42b1 : ((t789.length : Int) != 0) = false := bne_eq_false_iff_eq.mpr c42
                  clear c42
                  simp only [Option.some.injEq, Prod.mk.injEq] at H
                  obtain ⟨rfl, rfl⟩ := H
                  have p39 : 0 ≤ (t786 : Int) := ofD
                  have q39 : t786 < (a0.size : Int) := ofD
                  have hx39 := bt_at a0 t786
                  replace p39 := eq_true p39
                  replace q39 := eq_true q39
                  go_wp2_with (first | ((with_reducible refine gate_callee (f := 86) rfl ?_); refine goesS (some 86) Tryd.func86 #[.string a0, .int .i64 (wrap64 (t786 + 1))] ?_; (with_reducible refine (ih kj22 (by have := HJ15.out; have := HJ22.out; omega) a0 (wrap64 (t786 + 1)) t789 t790 _ A41.out).mono ?_); rintro e w43 ⟨v791, rfl, ho0, hb⟩; refine ⟨_, rfl, ?_⟩; have n0_ := Aside0.mk (Kd.R_elder' (rP HO_8.out) (Kd.R_base ho0) hb); have n1_ := Aside0.mk (Kd.R_lower (Kd.R_new' ho0 (Kd.R_lt (rP HO_8.out))) (below_size (bW))); have n2_ := Aside0.mk (below_step (bW) hb); clear HO_8 HB; have HO_8 := n0_; have HO792 := n1_; have HB := n2_; clear n0_ n1_ n2_; (try clear hb); (try clear hb2); (try clear hk); (try clear hi); (try clear ho0); obtain ⟨Ao44, co44, eo44⟩ := Kd.R_slice HO792.out; subst eo44))
                  go_ret2
                  exact ⟨_, eW, by first | exact Kd.R_nil _ _ _ _ _ | exact Kd.N_nil _ _ _ _ _ | exact Kd.V_nil _ _ _ _ _ | exact Kd.Q_nil _ _ _ _ _ | exact Kd.S_nil _ _ _ _ _, bW⟩
                 ·rw [if_neg c42] at H
                  have c42b0 : ((t789.length : Int) == 0) = false := beq_eq_false_iff_ne.mpr c42
                  have c42b1 : ((t789.length : Int) != 0) = true := bne_iff_ne.mpr c42
                  have c42b2 : ¬ (t789 = []) := fun h_ => c42 (by rw [h_]; rfl)
                  by_cases c45 : t790 ≥ (a0.size : Int)
                  ·rw [if_pos c45] at H
                   have c45b0 : decide ((a0.size : Int) ≤ t790) = true := decide_eq_true c45
                   clear c45
                   simp only [Option.some.injEq, Prod.mk.injEq] at H
                   obtain ⟨rfl, rfl⟩ := H
                   have p39 : 0 ≤ (t786 : Int) := ofD
                   have q39 : t786 < (a0.size : Int) := ofD
                   have hx39 := bt_at a0 t786
                   replace p39 := eq_true p39
                   replace q39 := eq_true q39
                   go_wp2_with (first | ((with_reducible refine gate_callee (f := 86) rfl ?_); refine goesS (some 86) Tryd.func86 #[.string a0, .int .i64 (wrap64 (t786 + 1))] ?_; (with_reducible refine (ih kj22 (by have := HJ15.out; have := HJ22.out; omega) a0 (wrap64 (t786 + 1)) t789 t790 _ A41.out).mono ?_); rintro e w46 ⟨v791, rfl, ho0, hb⟩; refine ⟨_, rfl, ?_⟩; have n0_ := Aside0.mk (Kd.R_elder' (rP HO_8.out) (Kd.R_base ho0) hb); have n1_ := Aside0.mk (Kd.R_lower (Kd.R_new' ho0 (Kd.R_lt (rP HO_8.out))) (below_size (bW))); have n2_ := Aside0.mk (below_step (bW) hb); clear HO_8 HB; have HO_8 := n0_; have HO792 := n1_; have HB := n2_; clear n0_ n1_ n2_; (try clear hb); (try clear hb2); (try clear hk); (try clear hi); (try clear ho0); obtain ⟨Ao47, co47, eo47⟩ := Kd.R_slice HO792.out; subst eo47))
                   go_ret2
                   exact ⟨_, eW, by first | exact Kd.R_nil _ _ _ _ _ | exact Kd.N_nil _ _ _ _ _ | exact Kd.V_nil _ _ _ _ _ | exact Kd.Q_nil _ _ _ _ _ | exact Kd.S_nil _ _ _ _ _, bW⟩
                  ·rw [if_neg c45] at H
                   have c45b0 : decide ((a0.size : Int) ≤ t790) = false := decide_eq_false c45
                   clear c45
                   by_cases c48 : 0 ≤ t790
                   ·rw [if_pos c48] at H
                    have c48b0 : decide (0 ≤ t790) = true := decide_eq_true c48
                    clear c48
                    by_cases c49 : t790 < (a0.size : Int)
                    ·rw [if_pos c49] at H
                     have c49b0 : decide (t790 < (a0.size : Int)) = true := decide_eq_true c49
                     clear c49
                     by_cases c51 : (bt a0 t790) = 41
                     ·rw [if_pos c51] at H
                      have c51b0 : ((bt a0 t790) == 41) = true := beq_iff_eq.mpr c51
                      have c51b1 : ((bt a0 t790) != 41) = false := bne_eq_false_iff_eq.mpr c51
                      clear c51
                      obtain ⟨y793, hy793⟩ : ∃ y_ : List (S84), y_ = (([(⟨4, 0⟩ : S84)] : List (S84))) := ⟨_, rfl⟩
                      replace H : (if y793.length + t785.length < 8796093022208 then ((some (y793 ++ t785 : List (S84))).bind fun y796 => (if y796.length + t789.length < 8796093022208 then (spec_l13Read.j2 kj22 a0 (wrap64 (t790 + 1)) (y796 ++ t789)) else (none))) else (none)) = some (r1, r2) := by first | (rw [hy793]; with_reducible exact H) | (have H2_ := (Option.bind_some _ _).symm.trans H; rw [hy793]; with_reducible exact H2_) | (have H2_ := (Option.bind_some _ _).symm.trans H; with_reducible exact H2_) | with_reducible exact H | (rw [hy793]; exact H) | exact H
                      have Ny793 := Aside0.mk hy793
                      clear hy793
                      by_cases c52 : y793.length + t785.length < 8796093022208
                      ·rw [if_pos c52] at H
                       have LMc52 := Aside0.mk c52
                       clear c52
                       obtain ⟨y796, hy796⟩ : ∃ y_ : List (S84), y_ = (y793 ++ t785) := ⟨_, rfl⟩
                       replace H : (if y796.length + t789.length < 8796093022208 then (spec_l13Read.j2 kj22 a0 (wrap64 (t790 + 1)) (y796 ++ t789)) else (none)) = some (r1, r2) := by first | (rw [hy796]; with_reducible exact H) | (have H2_ := (Option.bind_some _ _).symm.trans H; rw [hy796]; with_reducible exact H2_) | (have H2_ := (Option.bind_some _ _).symm.trans H; with_reducible exact H2_) | with_reducible exact H | (rw [hy796]; exact H) | exact H
                       have Ny796 := Aside0.mk hy796
                       clear hy796
                       by_cases c53 : y796.length + t789.length < 8796093022208
                       ·rw [if_pos c53] at H
                        have LMc53 := Aside0.mk c53
                        clear c53
                        obtain ⟨y799, hy799⟩ : ∃ y_ : List (S84), y_ = (y796 ++ t789) := ⟨_, rfl⟩
                        replace H : (spec_l13Read.j2 kj22 a0 (wrap64 (t790 + 1)) y799) = some (r1, r2) := by first | (rw [hy799]; with_reducible exact H) | (have H2_ := (Option.bind_some _ _).symm.trans H; rw [hy799]; with_reducible exact H2_) | (have H2_ := (Option.bind_some _ _).symm.trans H; with_reducible exact H2_) | with_reducible exact H | (rw [hy799]; exact H) | exact H
                        have Ny799 := Aside0.mk hy799
                        clear hy799
                        have H' := Aside0.mk H
                        clear H
                        have p39 : 0 ≤ (t786 : Int) := ofD
                        have q39 : t786 < (a0.size : Int) := ofD
                        have hx39 := bt_at a0 t786
                        replace p39 := eq_true p39
                        replace q39 := eq_true q39
                        go_wp2_with (first | ((with_reducible refine gate_callee (f := 86) rfl ?_); refine goesS (some 86) Tryd.func86 #[.string a0, .int .i64 (wrap64 (t786 + 1))] ?_; (with_reducible refine (ih kj22 (by have := HJ15.out; have := HJ22.out; omega) a0 (wrap64 (t786 + 1)) t789 t790 _ A41.out).mono ?_); rintro e w54 ⟨v791, rfl, ho0, hb⟩; refine ⟨_, rfl, ?_⟩; have n0_ := Aside0.mk (Kd.R_elder' (rP HO_8.out) (Kd.R_base ho0) hb); have n1_ := Aside0.mk (Kd.R_lower (Kd.R_new' ho0 (Kd.R_lt (rP HO_8.out))) (below_size (bW))); have n2_ := Aside0.mk (below_step (bW) hb); clear HO_8 HB; have HO_8 := n0_; have HO792 := n1_; have HB := n2_; clear n0_ n1_ n2_; (try clear hb); (try clear hb2); (try clear hk); (try clear hi); (try clear ho0); obtain ⟨Ao55, co55, eo55⟩ := Kd.R_slice HO792.out; subst eo55; have p50 : 0 ≤ (t790 : Int) := ofD; have q50 : t790 < (a0.size : Int) := ofD; have hx50 := bt_at a0 t790; replace p50 := eq_true p50; replace q50 := eq_true q50) | ((with_reducible refine gate_dst (N := 107) rfl ?_); (try (refine gate_guard (by rfl) ?_; dsimp only)); refine Kd.R_lit k84 _ 84 ?hg (N := 107) ?hd (xs := ([(⟨4, 0⟩ : S84)] : List (S84))) (inner := [.int .i64 4, .int .i64 0]) (ok := fun _ => True) (okp := fun _ => True) ?hr ?hp (fun _ hk => hk) trivial (Below.refl _ _) (Nat.le_refl _) (by simp) ?_; (case hd => rfl); (case hg => rfl); (case hr => first | (go_simp; done) | (go_simp; rfl)); (case hp => exact (Reps.c2 (show Kd.M k84 _ _ _ (⟨4, 0⟩ : S84) [.int .i64 4, .int .i64 0] from (k84_mkM _ _ _ (⟨4, 0⟩ : S84) )) (Reps.none _ _))); intro v794 w56 ho57 hb hg_ hnew_; clear hg_ hnew_; (first | rw [← Ny793.out] at ho57 | (simp only [Int.reduceToNat] at ho57; rw [← Ny793.out] at ho57)); have n0_ := Aside0.mk (Kd.R_elder' (rP HO_8.out) (Kd.R_base ho57) hb); have n1_ := Aside0.mk (Kd.R_elder' (rP HO792.out) (Kd.R_base ho57) hb); have n2_ := Aside0.mk (Kd.R_lower (Kd.R_new' (Kd.R_new' ho57 (Kd.R_lt (rP HO_8.out))) (Kd.R_lt (rP HO792.out))) (below_size (bW))); have n3_ := Aside0.mk (below_step (bW) hb); clear HO_8 HO792 HB; have HO_8 := n0_; have HO792 := n1_; have HO795 := n2_; have HB := n3_; clear n0_ n1_ n2_ n3_ hb ho57; obtain ⟨Ao59, co59, eo59⟩ := Kd.R_slice HO_8.out; subst eo59) | ((with_reducible refine gate_builtin (b := .append) (xs := #[.tmp 107, .tmp 108]) rfl ?_); (try (refine gate_guard (by rfl) ?_; dsimp only)); at_builtin; refine Kd.R_append_rows k84 (w0 := w) w.heap.size rfl (.tmp 107) (.tmp 108) 39 84 (.agg #[(.int .i64 0), (.int .i64 0)]) 16 rfl Tryd.underlying39 info84 rfl (by decide) (by omega) v794 y793 t785 _ _ _ (fun k_ => some k_ ≠ (.slice Ao59 t785.length co59 : Value).ownBlock ∧ some k_ ≠ (.slice Ao55 t789.length co55 : Value).ownBlock) (fun _ => False) rfl rfl ?aO ?aR (fun _ _ h => h) (fun _ h => h.elim) ?aF ?aB ?aS ?aL ?_; (case aR => exact cP ((Kd.R_reads' HO_8.out).2.2)); (case aB => exact (bW)); (case aF => exact (fun k_ hk => ⟨Kd.fresh' (Kd.R_lt (rP HO_8.out)) k_ hk, Kd.fresh' (Kd.R_lt (rP HO792.out)) k_ hk⟩)); (case aO => exact (by (with_reducible repeat (first | apply Kd.R_alloc | apply Kd.R_drewN | apply Kd.R_drew)); exact Kd.R_mono HO795.out (fun _ hk => ⟨hk.1.2, hk.2⟩))); (case aS => exact (below_size (bW))); (case aL => have := LMc52.out; omega); intro v797 w58 ho hb hg hat; rw [← Ny796.out] at ho; have n0_ := Aside0.mk (Kd.R_after (ok := (fun k_ => some k_ ≠ (.slice Ao55 t789.length co55 : Value).ownBlock)) (by (with_reducible repeat (first | apply Kd.R_alloc | apply Kd.R_drewN | apply Kd.R_drew)); exact Kd.R_mono HO_8.out (fun _ hk => ⟨hk.1.2, hk.2⟩)) hg hat); have n1_ := Aside0.mk (Kd.R_after (ok := (fun k_ => some k_ ≠ (.slice Ao59 t785.length co59 : Value).ownBlock)) (by (with_reducible repeat (first | apply Kd.R_alloc | apply Kd.R_drewN | apply Kd.R_drew)); exact Kd.R_mono HO792.out (fun _ hk => ⟨hk.1.2, hk.2⟩)) hg hat); have n2_ := Aside0.mk (hb); have n3_ := Aside0.mk (ho); clear HO_8 HO792 HB HO795; have HO_8 := n0_; have HO792 := n1_; have HB := n2_; have HO798 := n3_; clear n0_ n1_ n2_ n3_ ho hb hg hat) | ((with_reducible refine gate_builtin (b := .append) (xs := #[.tmp 109, .tmp 110]) rfl ?_); (try (refine gate_guard (by rfl) ?_; dsimp only)); at_builtin; refine Kd.R_append_rows k84 (w0 := w) w.heap.size rfl (.tmp 109) (.tmp 110) 39 84 (.agg #[(.int .i64 0), (.int .i64 0)]) 16 rfl Tryd.underlying39 info84 rfl (by decide) (by omega) v797 y796 t789 _ _ _ (fun k_ => some k_ ≠ (.slice Ao59 t785.length co59 : Value).ownBlock ∧ some k_ ≠ (.slice Ao55 t789.length co55 : Value).ownBlock) (fun _ => False) rfl rfl ?aO ?aR (fun _ _ h => h) (fun _ h => h.elim) ?aF ?aB ?aS ?aL ?_; (case aR => exact cP ((Kd.R_reads' HO792.out).2.2)); (case aB => exact (bW)); (case aF => exact (fun k_ hk => ⟨Kd.fresh' (Kd.R_lt (rP HO_8.out)) k_ hk, Kd.fresh' (Kd.R_lt (rP HO792.out)) k_ hk⟩)); (case aO => exact (rP HO798.out)); (case aS => exact (below_size (bW))); (case aL => have := LMc53.out; omega); intro v800 w60 ho hb hg hat; rw [← Ny799.out] at ho; have n0_ := Aside0.mk (Kd.R_after (ok := (fun k_ => some k_ ≠ (.slice Ao55 t789.length co55 : Value).ownBlock)) (rP HO_8.out) hg hat); have n1_ := Aside0.mk (Kd.R_after (ok := (fun k_ => some k_ ≠ (.slice Ao59 t785.length co59 : Value).ownBlock)) (rP HO792.out) hg hat); have n2_ := Aside0.mk (hb); have n3_ := Aside0.mk (ho); clear HO_8 HO792 HB HO798; have HO_8 := n0_; have HO792 := n1_; have HB := n2_; have HO801 := n3_; clear n0_ n1_ n2_ n3_ ho hb hg hat))
                        go_meet
                        case rel => exact ⟨_, (wrap64 (t790 + 1)), (y799), (eW), H', ⟨by have := HJ15.out; have := HJ22.out; first | omega | exact Nat.le_refl _⟩, ⟨by (with_reducible repeat (first | apply Kd.R_alloc | apply Kd.R_drewN | apply Kd.R_drew)); exact Kd.R_mono HO801.out (fun _ hk => trivial)⟩, ⟨bW⟩⟩
                       ·rw [if_neg c53] at H
                        exact absurd H (by simp)
                      ·rw [if_neg c52] at H
                       exact absurd H (by simp)
                     ·rw [if_neg c51] at H
                      have c51b0 : ((bt a0 t790) == 41) = false := beq_eq_false_iff_ne.mpr c51
                      have c51b1 : ((bt a0 t790) != 41) = true := bne_iff_ne.mpr c51
                      simp only [Option.some.injEq, Prod.mk.injEq] at H
                      obtain ⟨rfl, rfl⟩ := H
                      have p39 : 0 ≤ (t786 : Int) := ofD
                      have q39 : t786 < (a0.size : Int) := ofD
                      have hx39 := bt_at a0 t786
                      replace p39 := eq_true p39
                      replace q39 := eq_true q39
                      go_wp2_with (first | ((with_reducible refine gate_callee (f := 86) rfl ?_); refine goesS (some 86) Tryd.func86 #[.string a0, .int .i64 (wrap64 (t786 + 1))] ?_; (with_reducible refine (ih kj22 (by have := HJ15.out; have := HJ22.out; omega) a0 (wrap64 (t786 + 1)) t789 t790 _ A41.out).mono ?_); rintro e w61 ⟨v791, rfl, ho0, hb⟩; refine ⟨_, rfl, ?_⟩; have n0_ := Aside0.mk (Kd.R_elder' (rP HO_8.out) (Kd.R_base ho0) hb); have n1_ := Aside0.mk (Kd.R_lower (Kd.R_new' ho0 (Kd.R_lt (rP HO_8.out))) (below_size (bW))); have n2_ := Aside0.mk (below_step (bW) hb); clear HO_8 HB; have HO_8 := n0_; have HO792 := n1_; have HB := n2_; clear n0_ n1_ n2_; (try clear hb); (try clear hb2); (try clear hk); (try clear hi); (try clear ho0); obtain ⟨Ao62, co62, eo62⟩ := Kd.R_slice HO792.out; subst eo62; have p50 : 0 ≤ (t790 : Int) := ofD; have q50 : t790 < (a0.size : Int) := ofD; have hx50 := bt_at a0 t790; replace p50 := eq_true p50; replace q50 := eq_true q50))
                      go_ret2
                      exact ⟨_, eW, by first | exact Kd.R_nil _ _ _ _ _ | exact Kd.N_nil _ _ _ _ _ | exact Kd.V_nil _ _ _ _ _ | exact Kd.Q_nil _ _ _ _ _ | exact Kd.S_nil _ _ _ _ _, bW⟩
                    ·rw [if_neg c49] at H
                     exact absurd H (by simp)
                   ·rw [if_neg c48] at H
                    exact absurd H (by simp)
                ·rw [if_neg c40] at H
                 have c40b0 : ((bt a0 t786) == 46) = false := beq_eq_false_iff_ne.mpr c40
                 have c40b1 : ((bt a0 t786) != 46) = true := bne_iff_ne.mpr c40
                 replace H := Option.bind_eq_some_iff.mp H
                 obtain ⟨⟨t802, t803⟩, A630, H⟩ := H
                 replace H : (if (t802.length : Int) = 0 then (some (([] : List (S84)), (wrap64 (a1 + 1)))) else (if t803 ≥ (a0.size : Int) then (some (([] : List (S84)), (wrap64 (a1 + 1)))) else (if 0 ≤ t803 then (if t803 < (a0.size : Int) then (if (bt a0 t803) = 41 then ((some (([(⟨3, 0⟩ : S84)] : List (S84)) : List (S84))).bind fun y806 => (if y806.length + t785.length < 8796093022208 then ((some (y806 ++ t785 : List (S84))).bind fun y809 => (if y809.length + t802.length < 8796093022208 then (spec_l13Read.j2 kj22 a0 (wrap64 (t803 + 1)) (y809 ++ t802)) else (none))) else (none))) else (some (([] : List (S84)), (wrap64 (a1 + 1))))) else (none)) else (none)))) = some (r1, r2) := H
                 have A63 := Aside0.mk A630
                 clear A630
                 by_cases c64 : (t802.length : Int) = 0
                 ·rw [if_pos c64] at H
                  have c64b0 : ((t802.length : Int) == 0) = true := beq_iff_eq.mpr c64
                  have c64b1 : ((t802.length : Int) != 0) = false := bne_eq_false_iff_eq.mpr c64
                  clear c64
                  simp only [Option.some.injEq, Prod.mk.injEq] at H
                  obtain ⟨rfl, rfl⟩ := H
                  have p39 : 0 ≤ (t786 : Int) := ofD
                  have q39 : t786 < (a0.size : Int) := ofD
                  have hx39 := bt_at a0 t786
                  replace p39 := eq_true p39
                  replace q39 := eq_true q39
                  go_wp2_with (first | ((with_reducible refine gate_callee (f := 86) rfl ?_); refine goesS (some 86) Tryd.func86 #[.string a0, .int .i64 (wrap64 (t786 + 1))] ?_; (with_reducible refine (ih kj22 (by have := HJ15.out; have := HJ22.out; omega) a0 (wrap64 (t786 + 1)) t802 t803 _ A63.out).mono ?_); rintro e w65 ⟨v804, rfl, ho0, hb⟩; refine ⟨_, rfl, ?_⟩; have n0_ := Aside0.mk (Kd.R_elder' (rP HO_8.out) (Kd.R_base ho0) hb); have n1_ := Aside0.mk (Kd.R_lower (Kd.R_new' ho0 (Kd.R_lt (rP HO_8.out))) (below_size (bW))); have n2_ := Aside0.mk (below_step (bW) hb); clear HO_8 HB; have HO_8 := n0_; have HO805 := n1_; have HB := n2_; clear n0_ n1_ n2_; (try clear hb); (try clear hb2); (try clear hk); (try clear hi); (try clear ho0); obtain ⟨Ao66, co66, eo66⟩ := Kd.R_slice HO805.out; subst eo66))
                  go_ret2
                  exact ⟨_, eW, by first | exact Kd.R_nil _ _ _ _ _ | exact Kd.N_nil _ _ _ _ _ | exact Kd.V_nil _ _ _ _ _ | exact Kd.Q_nil _ _ _ _ _ | exact Kd.S_nil _ _ _ _ _, bW⟩
                 ·rw [if_neg c64] at H
                  have c64b0 : ((t802.length : Int) == 0) = false := beq_eq_false_iff_ne.mpr c64
                  have c64b1 : ((t802.length : Int) != 0) = true := bne_iff_ne.mpr c64
                  have c64b2 : ¬ (t802 = []) := fun h_ => c64 (by rw [h_]; rfl)
                  by_cases c67 : t803 ≥ (a0.size : Int)
                  ·rw [if_pos c67] at H
                   have c67b0 : decide ((a0.size : Int) ≤ t803) = true := decide_eq_true c67
                   clear c67
                   simp only [Option.some.injEq, Prod.mk.injEq] at H
                   obtain ⟨rfl, rfl⟩ := H
                   have p39 : 0 ≤ (t786 : Int) := ofD
                   have q39 : t786 < (a0.size : Int) := ofD
                   have hx39 := bt_at a0 t786
                   replace p39 := eq_true p39
                   replace q39 := eq_true q39
                   go_wp2_with (first | ((with_reducible refine gate_callee (f := 86) rfl ?_); refine goesS (some 86) Tryd.func86 #[.string a0, .int .i64 (wrap64 (t786 + 1))] ?_; (with_reducible refine (ih kj22 (by have := HJ15.out; have := HJ22.out; omega) a0 (wrap64 (t786 + 1)) t802 t803 _ A63.out).mono ?_); rintro e w68 ⟨v804, rfl, ho0, hb⟩; refine ⟨_, rfl, ?_⟩; have n0_ := Aside0.mk (Kd.R_elder' (rP HO_8.out) (Kd.R_base ho0) hb); have n1_ := Aside0.mk (Kd.R_lower (Kd.R_new' ho0 (Kd.R_lt (rP HO_8.out))) (below_size (bW))); have n2_ := Aside0.mk (below_step (bW) hb); clear HO_8 HB; have HO_8 := n0_; have HO805 := n1_; have HB := n2_; clear n0_ n1_ n2_; (try clear hb); (try clear hb2); (try clear hk); (try clear hi); (try clear ho0); obtain ⟨Ao69, co69, eo69⟩ := Kd.R_slice HO805.out; subst eo69))
                   go_ret2
                   exact ⟨_, eW, by first | exact Kd.R_nil _ _ _ _ _ | exact Kd.N_nil _ _ _ _ _ | exact Kd.V_nil _ _ _ _ _ | exact Kd.Q_nil _ _ _ _ _ | exact Kd.S_nil _ _ _ _ _, bW⟩
                  ·rw [if_neg c67] at H
                   have c67b0 : decide ((a0.size : Int) ≤ t803) = false := decide_eq_false c67
                   clear c67
                   by_cases c70 : 0 ≤ t803
                   ·rw [if_pos c70] at H
                    have c70b0 : decide (0 ≤ t803) = true := decide_eq_true c70
                    clear c70
                    by_cases c71 : t803 < (a0.size : Int)
                    ·rw [if_pos c71] at H
                     have c71b0 : decide (t803 < (a0.size : Int)) = true := decide_eq_true c71
                     clear c71
                     by_cases c73 : (bt a0 t803) = 41
                     ·rw [if_pos c73] at H
                      have c73b0 : ((bt a0 t803) == 41) = true := beq_iff_eq.mpr c73
                      have c73b1 : ((bt a0 t803) != 41) = false := bne_eq_false_iff_eq.mpr c73
                      clear c73
                      obtain ⟨y806, hy806⟩ : ∃ y_ : List (S84), y_ = (([(⟨3, 0⟩ : S84)] : List (S84))) := ⟨_, rfl⟩
                      replace H : (if y806.length + t785.length < 8796093022208 then ((some (y806 ++ t785 : List (S84))).bind fun y809 => (if y809.length + t802.length < 8796093022208 then (spec_l13Read.j2 kj22 a0 (wrap64 (t803 + 1)) (y809 ++ t802)) else (none))) else (none)) = some (r1, r2) := by first | (rw [hy806]; with_reducible exact H) | (have H2_ := (Option.bind_some _ _).symm.trans H; rw [hy806]; with_reducible exact H2_) | (have H2_ := (Option.bind_some _ _).symm.trans H; with_reducible exact H2_) | with_reducible exact H | (rw [hy806]; exact H) | exact H
                      have Ny806 := Aside0.mk hy806
                      clear hy806
                      by_cases c74 : y806.length + t785.length < 8796093022208
                      ·rw [if_pos c74] at H
                       have LMc74 := Aside0.mk c74
                       clear c74
                       obtain ⟨y809, hy809⟩ : ∃ y_ : List (S84), y_ = (y806 ++ t785) := ⟨_, rfl⟩
                       replace H : (if y809.length + t802.length < 8796093022208 then (spec_l13Read.j2 kj22 a0 (wrap64 (t803 + 1)) (y809 ++ t802)) else (none)) = some (r1, r2) := by first | (rw [hy809]; with_reducible exact H) | (have H2_ := (Option.bind_some _ _).symm.trans H; rw [hy809]; with_reducible exact H2_) | (have H2_ := (Option.bind_some _ _).symm.trans H; with_reducible exact H2_) | with_reducible exact H | (rw [hy809]; exact H) | exact H
                       have Ny809 := Aside0.mk hy809
                       clear hy809
                       by_cases c75 : y809.length + t802.length < 8796093022208
                       ·rw [if_pos c75] at H
                        have LMc75 := Aside0.mk c75
                        clear c75
                        obtain ⟨y812, hy812⟩ : ∃ y_ : List (S84), y_ = (y809 ++ t802) := ⟨_, rfl⟩
                        replace H : (spec_l13Read.j2 kj22 a0 (wrap64 (t803 + 1)) y812) = some (r1, r2) := by first | (rw [hy812]; with_reducible exact H) | (have H2_ := (Option.bind_some _ _).symm.trans H; rw [hy812]; with_reducible exact H2_) | (have H2_ := (Option.bind_some _ _).symm.trans H; with_reducible exact H2_) | with_reducible exact H | (rw [hy812]; exact H) | exact H
                        have Ny812 := Aside0.mk hy812
                        clear hy812
                        have H' := Aside0.mk H
                        clear H
                        have p39 : 0 ≤ (t786 : Int) := ofD
                        have q39 : t786 < (a0.size : Int) := ofD
                        have hx39 := bt_at a0 t786
                        replace p39 := eq_true p39
                        replace q39 := eq_true q39
                        go_wp2_with (first | ((with_reducible refine gate_callee (f := 86) rfl ?_); refine goesS (some 86) Tryd.func86 #[.string a0, .int .i64 (wrap64 (t786 + 1))] ?_; (with_reducible refine (ih kj22 (by have := HJ15.out; have := HJ22.out; omega) a0 (wrap64 (t786 + 1)) t802 t803 _ A63.out).mono ?_); rintro e w76 ⟨v804, rfl, ho0, hb⟩; refine ⟨_, rfl, ?_⟩; have n0_ := Aside0.mk (Kd.R_elder' (rP HO_8.out) (Kd.R_base ho0) hb); have n1_ := Aside0.mk (Kd.R_lower (Kd.R_new' ho0 (Kd.R_lt (rP HO_8.out))) (below_size (bW))); have n2_ := Aside0.mk (below_step (bW) hb); clear HO_8 HB; have HO_8 := n0_; have HO805 := n1_; have HB := n2_; clear n0_ n1_ n2_; (try clear hb); (try clear hb2); (try clear hk); (try clear hi); (try clear ho0); obtain ⟨Ao77, co77, eo77⟩ := Kd.R_slice HO805.out; subst eo77; have p72 : 0 ≤ (t803 : Int) := ofD; have q72 : t803 < (a0.size : Int) := ofD; have hx72 := bt_at a0 t803; replace p72 := eq_true p72; replace q72 := eq_true q72) | ((with_reducible refine gate_dst (N := 107) rfl ?_); (try (refine gate_guard (by rfl) ?_; dsimp only)); refine Kd.R_lit k84 _ 84 ?hg (N := 107) ?hd (xs := ([(⟨3, 0⟩ : S84)] : List (S84))) (inner := [.int .i64 3, .int .i64 0]) (ok := fun _ => True) (okp := fun _ => True) ?hr ?hp (fun _ hk => hk) trivial (Below.refl _ _) (Nat.le_refl _) (by simp) ?_; (case hd => rfl); (case hg => rfl); (case hr => first | (go_simp; done) | (go_simp; rfl)); (case hp => exact (Reps.c2 (show Kd.M k84 _ _ _ (⟨3, 0⟩ : S84) [.int .i64 3, .int .i64 0] from (k84_mkM _ _ _ (⟨3, 0⟩ : S84) )) (Reps.none _ _))); intro v807 w78 ho79 hb hg_ hnew_; clear hg_ hnew_; (first | rw [← Ny806.out] at ho79 | (simp only [Int.reduceToNat] at ho79; rw [← Ny806.out] at ho79)); have n0_ := Aside0.mk (Kd.R_elder' (rP HO_8.out) (Kd.R_base ho79) hb); have n1_ := Aside0.mk (Kd.R_elder' (rP HO805.out) (Kd.R_base ho79) hb); have n2_ := Aside0.mk (Kd.R_lower (Kd.R_new' (Kd.R_new' ho79 (Kd.R_lt (rP HO_8.out))) (Kd.R_lt (rP HO805.out))) (below_size (bW))); have n3_ := Aside0.mk (below_step (bW) hb); clear HO_8 HO805 HB; have HO_8 := n0_; have HO805 := n1_; have HO808 := n2_; have HB := n3_; clear n0_ n1_ n2_ n3_ hb ho79; obtain ⟨Ao81, co81, eo81⟩ := Kd.R_slice HO_8.out; subst eo81) | ((with_reducible refine gate_builtin (b := .append) (xs := #[.tmp 107, .tmp 108]) rfl ?_); (try (refine gate_guard (by rfl) ?_; dsimp only)); at_builtin; refine Kd.R_append_rows k84 (w0 := w) w.heap.size rfl (.tmp 107) (.tmp 108) 39 84 (.agg #[(.int .i64 0), (.int .i64 0)]) 16 rfl Tryd.underlying39 info84 rfl (by decide) (by omega) v807 y806 t785 _ _ _ (fun k_ => some k_ ≠ (.slice Ao81 t785.length co81 : Value).ownBlock ∧ some k_ ≠ (.slice Ao77 t802.length co77 : Value).ownBlock) (fun _ => False) rfl rfl ?aO ?aR (fun _ _ h => h) (fun _ h => h.elim) ?aF ?aB ?aS ?aL ?_; (case aR => exact cP ((Kd.R_reads' HO_8.out).2.2)); (case aB => exact (bW)); (case aF => exact (fun k_ hk => ⟨Kd.fresh' (Kd.R_lt (rP HO_8.out)) k_ hk, Kd.fresh' (Kd.R_lt (rP HO805.out)) k_ hk⟩)); (case aO => exact (by (with_reducible repeat (first | apply Kd.R_alloc | apply Kd.R_drewN | apply Kd.R_drew)); exact Kd.R_mono HO808.out (fun _ hk => ⟨hk.1.2, hk.2⟩))); (case aS => exact (below_size (bW))); (case aL => have := LMc74.out; omega); intro v810 w80 ho hb hg hat; rw [← Ny809.out] at ho; have n0_ := Aside0.mk (Kd.R_after (ok := (fun k_ => some k_ ≠ (.slice Ao77 t802.length co77 : Value).ownBlock)) (by (with_reducible repeat (first | apply Kd.R_alloc | apply Kd.R_drewN | apply Kd.R_drew)); exact Kd.R_mono HO_8.out (fun _ hk => ⟨hk.1.2, hk.2⟩)) hg hat); have n1_ := Aside0.mk (Kd.R_after (ok := (fun k_ => some k_ ≠ (.slice Ao81 t785.length co81 : Value).ownBlock)) (by (with_reducible repeat (first | apply Kd.R_alloc | apply Kd.R_drewN | apply Kd.R_drew)); exact Kd.R_mono HO805.out (fun _ hk => ⟨hk.1.2, hk.2⟩)) hg hat); have n2_ := Aside0.mk (hb); have n3_ := Aside0.mk (ho); clear HO_8 HO805 HB HO808; have HO_8 := n0_; have HO805 := n1_; have HB := n2_; have HO811 := n3_; clear n0_ n1_ n2_ n3_ ho hb hg hat) | ((with_reducible refine gate_builtin (b := .append) (xs := #[.tmp 109, .tmp 110]) rfl ?_); (try (refine gate_guard (by rfl) ?_; dsimp only)); at_builtin; refine Kd.R_append_rows k84 (w0 := w) w.heap.size rfl (.tmp 109) (.tmp 110) 39 84 (.agg #[(.int .i64 0), (.int .i64 0)]) 16 rfl Tryd.underlying39 info84 rfl (by decide) (by omega) v810 y809 t802 _ _ _ (fun k_ => some k_ ≠ (.slice Ao81 t785.length co81 : Value).ownBlock ∧ some k_ ≠ (.slice Ao77 t802.length co77 : Value).ownBlock) (fun _ => False) rfl rfl ?aO ?aR (fun _ _ h => h) (fun _ h => h.elim) ?aF ?aB ?aS ?aL ?_; (case aR => exact cP ((Kd.R_reads' HO805.out).2.2)); (case aB => exact (bW)); (case aF => exact (fun k_ hk => ⟨Kd.fresh' (Kd.R_lt (rP HO_8.out)) k_ hk, Kd.fresh' (Kd.R_lt (rP HO805.out)) k_ hk⟩)); (case aO => exact (rP HO811.out)); (case aS => exact (below_size (bW))); (case aL => have := LMc75.out; omega); intro v813 w82 ho hb hg hat; rw [← Ny812.out] at ho; have n0_ := Aside0.mk (Kd.R_after (ok := (fun k_ => some k_ ≠ (.slice Ao77 t802.length co77 : Value).ownBlock)) (rP HO_8.out) hg hat); have n1_ := Aside0.mk (Kd.R_after (ok := (fun k_ => some k_ ≠ (.slice Ao81 t785.length co81 : Value).ownBlock)) (rP HO805.out) hg hat); have n2_ := Aside0.mk (hb); have n3_ := Aside0.mk (ho); clear HO_8 HO805 HB HO811; have HO_8 := n0_; have HO805 := n1_; have HB := n2_; have HO814 := n3_; clear n0_ n1_ n2_ n3_ ho hb hg hat))
                        go_meet
                        case rel => exact ⟨_, (wrap64 (t803 + 1)), (y812), (eW), H', ⟨by have := HJ15.out; have := HJ22.out; first | omega | exact Nat.le_refl _⟩, ⟨by (with_reducible repeat (first | apply Kd.R_alloc | apply Kd.R_drewN | apply Kd.R_drew)); exact Kd.R_mono HO814.out (fun _ hk => trivial)⟩, ⟨bW⟩⟩
                       ·rw [if_neg c75] at H
                        exact absurd H (by simp)
                      ·rw [if_neg c74] at H
                       exact absurd H (by simp)
                     ·rw [if_neg c73] at H
                      have c73b0 : ((bt a0 t803) == 41) = false := beq_eq_false_iff_ne.mpr c73
                      have c73b1 : ((bt a0 t803) != 41) = true := bne_iff_ne.mpr c73
                      simp only [Option.some.injEq, Prod.mk.injEq] at H
                      obtain ⟨rfl, rfl⟩ := H
                      have p39 : 0 ≤ (t786 : Int) := ofD
                      have q39 : t786 < (a0.size : Int) := ofD
                      have hx39 := bt_at a0 t786
                      replace p39 := eq_true p39
                      replace q39 := eq_true q39
                      go_wp2_with (first | ((with_reducible refine gate_callee (f := 86) rfl ?_); refine goesS (some 86) Tryd.func86 #[.string a0, .int .i64 (wrap64 (t786 + 1))] ?_; (with_reducible refine (ih kj22 (by have := HJ15.out; have := HJ22.out; omega) a0 (wrap64 (t786 + 1)) t802 t803 _ A63.out).mono ?_); rintro e w83 ⟨v804, rfl, ho0, hb⟩; refine ⟨_, rfl, ?_⟩; have n0_ := Aside0.mk (Kd.R_elder' (rP HO_8.out) (Kd.R_base ho0) hb); have n1_ := Aside0.mk (Kd.R_lower (Kd.R_new' ho0 (Kd.R_lt (rP HO_8.out))) (below_size (bW))); have n2_ := Aside0.mk (below_step (bW) hb); clear HO_8 HB; have HO_8 := n0_; have HO805 := n1_; have HB := n2_; clear n0_ n1_ n2_; (try clear hb); (try clear hb2); (try clear hk); (try clear hi); (try clear ho0); obtain ⟨Ao84, co84, eo84⟩ := Kd.R_slice HO805.out; subst eo84; have p72 : 0 ≤ (t803 : Int) := ofD; have q72 : t803 < (a0.size : Int) := ofD; have hx72 := bt_at a0 t803; replace p72 := eq_true p72; replace q72 := eq_true q72))
                      go_ret2
                      exact ⟨_, eW, by first | exact Kd.R_nil _ _ _ _ _ | exact Kd.N_nil _ _ _ _ _ | exact Kd.V_nil _ _ _ _ _ | exact Kd.Q_nil _ _ _ _ _ | exact Kd.S_nil _ _ _ _ _, bW⟩
                    ·rw [if_neg c71] at H
                     exact absurd H (by simp)
                   ·rw [if_neg c70] at H
                    exact absurd H (by simp)
               ·rw [if_neg c38] at H
                exact absurd H (by simp)
              ·rw [if_neg c37] at H
               exact absurd H (by simp)
          ·rw [if_neg c21] at H
           have c21b0 : ((bt a0 a1) == 40) = false := beq_eq_false_iff_ne.mpr c21
           have c21b1 : ((bt a0 a1) != 40) = true := bne_iff_ne.mpr c21
           simp only [Option.some.injEq, Prod.mk.injEq] at H
           obtain ⟨rfl, rfl⟩ := H
           go_wp2
           go_ret2
           exact ⟨_, eW, by first | exact Kd.R_nil _ _ _ _ _ | exact Kd.N_nil _ _ _ _ _ | exact Kd.V_nil _ _ _ _ _ | exact Kd.Q_nil _ _ _ _ _ | exact Kd.S_nil _ _ _ _ _, bW⟩
    case rest =>
     clear HC7
     try clear c1
     try clear c2
     try clear p2
     try clear c3
     try clear c3b0
     try clear p3
     try clear q3
     try clear hx3
     try clear c4
     try clear c4b0
     try clear c5
     try clear c5b0
     try clear p5
     try clear q5
     try clear hx5
     try clear c6
     try clear p6
     try clear q6
     try clear hx6
     try clear c7
     try clear p7
     try clear q7
     try clear hx7
     try clear c8
     try clear c10
     try clear c10b0
     try clear c10b1
     try clear c13
     try clear c13b0
     try clear c13b1
     try clear c17
     try clear c17b0
     try clear c18
     try clear c21
     try clear c21b0
     try clear c21b1
     try clear c25
     try clear c25b0
     try clear c25b1
     try clear c25b2
     try clear c27
     try clear c27b0
     try clear c29
     try clear c29b0
     try clear c30
     try clear c30b0
     try clear p31
     try clear q31
     try clear hx31
     try clear c32
     try clear c32b0
     try clear c32b1
     try clear p34
     try clear q34
     try clear hx34
     try clear c36
     try clear c37
     try clear c37b0
     try clear c38
     try clear c38b0
     try clear p39
     try clear q39
     try clear hx39
     try clear c40
     try clear c40b0
     try clear c40b1
     try clear c42
     try clear c42b0
     try clear c42b1
     try clear c42b2
     try clear c45
     try clear c45b0
     try clear c48
     try clear c48b0
     try clear c49
     try clear c49b0
     try clear p50
     try clear q50
     try clear hx50
     try clear c51
     try clear c51b0
     try clear c51b1
     try clear c52
     try clear c53
     try clear c64
     try clear c64b0
     try clear c64b1
     try clear c64b2
     try clear p64
     try clear c67
     try clear c67b0
     try clear c70
     try clear c70b0
     try clear c71
     try clear c71b0
     try clear p72
     try clear q72
     try clear hx72
     try clear c73
     try clear c73b0
     try clear c73b1
     try clear c74
     try clear c75
     try clear p2
     try clear p3
     try clear p31
     try clear p34
     try clear p39
     try clear p50
     try clear p6
     try clear p72
     try clear q3
     try clear q31
     try clear q34
     try clear q39
     try clear q50
     try clear q6
     try clear q72
     obtain ⟨kq, x1_6, x6_6, rfl, HA, HJ6, HO_6, HB⟩ := hcut
     cases kq with
     | zero => exact absurd HA.out (by simp [spec_l13Read.j2])
     | succ kj6 =>
      have H := HA.out
      clear HA
      simp only [spec_l13Read.j2] at H
      have H' := Aside0.mk H
      clear H
      go_wp2
      go_loopg [1, 6] kj6 (fun kq v1 v6 w' => ∃ (x1_2 : Int) (x6_2 : List (S84)), v1 = .int .i64 x1_2 ∧ Aside0 (spec_l13Read.l0 kq a0 x1_2 x6_2 = some (r1, r2)) ∧ Aside0 (kq ≤ kj6) ∧ Aside0 (Kd.R k84 84 w' w.heap.size (fun _ => True) v6 x6_2) ∧ Aside0 (Below w.heap.size w w'))
      case atStart => exact ⟨(x1_6), (x6_6), (eW), H', ⟨Nat.le_refl _⟩, ⟨(rP HO_6.out)⟩, ⟨bW⟩⟩
      case round =>
       clear H'
       try clear c1
       try clear c2
       try clear p2
       try clear c3
       try clear c3b0
       try clear p3
       try clear q3
       try clear hx3
       try clear c4
       try clear c4b0
       try clear c5
       try clear c5b0
       try clear p5
       try clear q5
       try clear hx5
       try clear c6
       try clear p6
       try clear q6
       try clear hx6
       try clear c7
       try clear p7
       try clear q7
       try clear hx7
       try clear c8
       try clear c10
       try clear c10b0
       try clear c10b1
       try clear c13
       try clear c13b0
       try clear c13b1
       try clear c17
       try clear c17b0
       try clear c18
       try clear c21
       try clear c21b0
       try clear c21b1
       try clear c25
       try clear c25b0
       try clear c25b1
       try clear c25b2
       try clear c27
       try clear c27b0
       try clear c29
       try clear c29b0
       try clear c30
       try clear c30b0
       try clear p31
       try clear q31
       try clear hx31
       try clear c32
       try clear c32b0
       try clear c32b1
       try clear p34
       try clear q34
       try clear hx34
       try clear c36
       try clear c37
       try clear c37b0
       try clear c38
       try clear c38b0
       try clear p39
       try clear q39
       try clear hx39
       try clear c40
       try clear c40b0
       try clear c40b1
       try clear c42
       try clear c42b0
       try clear c42b1
       try clear c42b2
       try clear c45
       try clear c45b0
       try clear c48
       try clear c48b0
       try clear c49
       try clear c49b0
       try clear p50
       try clear q50
       try clear hx50
       try clear c51
       try clear c51b0
       try clear c51b1
       try clear c52
       try clear c53
       try clear c64
       try clear c64b0
       try clear c64b1
       try clear c64b2
       try clear p64
       try clear c67
       try clear c67b0
       try clear c70
       try clear c70b0
       try clear c71
       try clear c71b0
       try clear p72
       try clear q72
       try clear hx72
       try clear c73
       try clear c73b0
       try clear c73b1
       try clear c74
       try clear c75
       try clear p2
       try clear p3
       try clear p31
       try clear p34
       try clear p39
       try clear p5
       try clear p50
       try clear p6
       try clear p64
       try clear p7
       try clear p72
       try clear q3
       try clear q31
       try clear q34
       try clear q39
       try clear q5
       try clear q50
       try clear q6
       try clear q7
       try clear q72
       obtain ⟨x1_2, x6_2, rfl, HA, HK2, HO_6, HB⟩ := hrel
       cases gk with
       | zero => exact absurd HA.out (by simp [spec_l13Read.l0])
       | succ k2 =>
        have H := HA.out
        clear HA
        simp only [spec_l13Read.l0] at H
        by_cases c85 : x1_2 < (a0.size : Int)
        ·rw [if_pos c85] at H
         have c85b0 : decide (x1_2 < (a0.size : Int)) = true := decide_eq_true c85
         clear c85
         by_cases c86 : 0 ≤ x1_2
         ·rw [if_pos c86] at H
          have c86b0 : decide (0 ≤ x1_2) = true := decide_eq_true c86
          clear c86
          by_cases c88 : (bt a0 x1_2) = 42
          ·rw [if_pos c88] at H
           have c88b0 : ((bt a0 x1_2) == 42) = true := beq_iff_eq.mpr c88
           have c88b1 : ((bt a0 x1_2) != 42) = false := bne_eq_false_iff_eq.mpr c88
           clear c88
           obtain ⟨y815, hy815⟩ : ∃ y_ : List (S84), y_ = (([(⟨5, 0⟩ : S84)] : List (S84))) := ⟨_, rfl⟩
           replace H : (if y815.length + x6_2.length < 8796093022208 then (spec_l13Read.l0 k2 a0 (wrap64 (x1_2 + 1)) (y815 ++ x6_2)) else (none)) = some (r1, r2) := by first | (rw [hy815]; with_reducible exact H) | (have H2_ := (Option.bind_some _ _).symm.trans H; rw [hy815]; with_reducible exact H2_) | (have H2_ := (Option.bind_some _ _).symm.trans H; with_reducible exact H2_) | with_reducible exact H | (rw [hy815]; exact H) | exact H
           have Ny815 := Aside0.mk hy815
           clear hy815
           by_cases c89 : y815.length + x6_2.length < 8796093022208
           ·rw [if_pos c89] at H
            have LMc89 := Aside0.mk c89
            clear c89
            obtain ⟨y818, hy818⟩ : ∃ y_ : List (S84), y_ = (y815 ++ x6_2) := ⟨_, rfl⟩
            replace H : (spec_l13Read.l0 k2 a0 (wrap64 (x1_2 + 1)) y818) = some (r1, r2) := by first | (rw [hy818]; with_reducible exact H) | (have H2_ := (Option.bind_some _ _).symm.trans H; rw [hy818]; with_reducible exact H2_) | (have H2_ := (Option.bind_some _ _).symm.trans H; with_reducible exact H2_) | with_reducible exact H | (rw [hy818]; exact H) | exact H
            have Ny818 := Aside0.mk hy818
            clear hy818
            have H' := Aside0.mk H
            clear H
            have p87 : 0 ≤ (x1_2 : Int) := ofD
            have q87 : x1_2 < (a0.size : Int) := ofD
            have hx87 := bt_at a0 x1_2
            replace p87 := eq_true p87
            replace q87 := eq_true q87
            go_wp2_with (first | ((with_reducible refine gate_dst (N := 125) rfl ?_); (try (refine gate_guard (by rfl) ?_; dsimp only)); refine Kd.R_lit k84 _ 84 ?hg (N := 125) ?hd (xs := ([(⟨5, 0⟩ : S84)] : List (S84))) (inner := [.int .i64 5, .int .i64 0]) (ok := fun _ => True) (okp := fun _ => True) ?hr ?hp (fun _ hk => hk) trivial (Below.refl _ _) (Nat.le_refl _) (by simp) ?_; (case hd => rfl); (case hg => rfl); (case hr => first | (go_simp; done) | (go_simp; rfl)); (case hp => exact (Reps.c2 (show Kd.M k84 _ _ _ (⟨5, 0⟩ : S84) [.int .i64 5, .int .i64 0] from (k84_mkM _ _ _ (⟨5, 0⟩ : S84) )) (Reps.none _ _))); intro v816 w90 ho91 hb hg_ hnew_; clear hg_ hnew_; (first | rw [← Ny815.out] at ho91 | (simp only [Int.reduceToNat] at ho91; rw [← Ny815.out] at ho91)); have n0_ := Aside0.mk (Kd.R_elder' (rP HO_6.out) (Kd.R_base ho91) hb); have n1_ := Aside0.mk (Kd.R_lower (Kd.R_new' ho91 (Kd.R_lt (rP HO_6.out))) (below_size (bW))); have n2_ := Aside0.mk (below_step (bW) hb); clear HO_6 HB; have HO_6 := n0_; have HO817 := n1_; have HB := n2_; clear n0_ n1_ n2_ hb ho91; obtain ⟨Ao93, co93, eo93⟩ := Kd.R_slice HO_6.out; subst eo93) | ((with_reducible refine gate_builtin (b := .append) (xs := #[.tmp 125, .tmp 126]) rfl ?_); (try (refine gate_guard (by rfl) ?_; dsimp only)); at_builtin; refine Kd.R_append_rows k84 (w0 := w) w.heap.size rfl (.tmp 125) (.tmp 126) 39 84 (.agg #[(.int .i64 0), (.int .i64 0)]) 16 rfl Tryd.underlying39 info84 rfl (by decide) (by omega) v816 y815 x6_2 _ _ _ (fun k_ => some k_ ≠ (.slice Ao93 x6_2.length co93 : Value).ownBlock) (fun _ => False) rfl rfl ?aO ?aR (fun _ _ h => h) (fun _ h => h.elim) ?aF ?aB ?aS ?aL ?_; (case aR => exact cP ((Kd.R_reads' HO_6.out).2.2)); (case aB => exact (bW)); (case aF => exact (fun k_ hk => Kd.fresh' (Kd.R_lt (rP HO_6.out)) k_ hk)); (case aO => exact (by (with_reducible repeat (first | apply Kd.R_alloc | apply Kd.R_drewN | apply Kd.R_drew)); exact Kd.R_mono HO817.out (fun _ hk => hk.2))); (case aS => exact (below_size (bW))); (case aL => have := LMc89.out; omega); intro v819 w92 ho hb hg hat; rw [← Ny818.out] at ho; have n0_ := Aside0.mk (Kd.R_after (ok := (fun _ => True)) (rP HO_6.out) hg hat); have n1_ := Aside0.mk (hb); have n2_ := Aside0.mk (ho); clear HO_6 HB HO817; have HO_6 := n0_; have HB := n1_; have HO820 := n2_; clear n0_ n1_ n2_ ho hb hg hat))
            go_roundg k2
            case measure => have := HJ6.out; have := HK2.out; omega
            case rel => exact ⟨(wrap64 (x1_2 + 1)), (y818), (eW), H', ⟨by have := HJ6.out; have := HK2.out; omega⟩, ⟨by (with_reducible repeat (first | apply Kd.R_alloc | apply Kd.R_drewN | apply Kd.R_drew)); exact Kd.R_mono HO820.out (fun _ hk => trivial)⟩, ⟨bW⟩⟩
           ·rw [if_neg c89] at H
            exact absurd H (by simp)
          ·rw [if_neg c88] at H
           have c88b0 : ((bt a0 x1_2) == 42) = false := beq_eq_false_iff_ne.mpr c88
           have c88b1 : ((bt a0 x1_2) != 42) = true := bne_iff_ne.mpr c88
           simp only [Option.some.injEq, Prod.mk.injEq] at H
           obtain ⟨rfl, rfl⟩ := H
           have p87 : 0 ≤ (x1_2 : Int) := ofD
           have q87 : x1_2 < (a0.size : Int) := ofD
           have hx87 := bt_at a0 x1_2
           replace p87 := eq_true p87
           replace q87 := eq_true q87
           go_wp2
           go_ret2
           exact ⟨_, eW, (rP HO_6.out), bW⟩
         ·rw [if_neg c86] at H
          exact absurd H (by simp)
        ·rw [if_neg c85] at H
         have c85b0 : decide (x1_2 < (a0.size : Int)) = false := decide_eq_false c85
         clear c85
         simp only [Option.some.injEq, Prod.mk.injEq] at H
         obtain ⟨rfl, rfl⟩ := H
         go_wp2
         go_ret2
         exact ⟨_, eW, (rP HO_6.out), bW⟩
   ·rw [if_neg c5] at H
    exact absurd H (by simp)
  ·rw [if_neg c4] at H
   exact absurd H (by simp)
end Go.Proofs.YthbaocejgjpfoaaDoor.P
end M0
section M1
namespace Go.Proofs.YthbaocejgjpfoaaDoor.P
open Go.RowKit Go.Proofs.YthbaocejgjpfoaaDoor.Sh Go.Proofs.YthbaocejgjpfoaaDoorW.PrintWords Go.Proofs.YthbaocejgjpfoaaDoorW.PrintLast Go.Proofs.YthbaocejgjpfoaaDoorW.PrintMore
attribute [local go_sem] max2_int min2_int max_two min_two max_three min_three max_four min_four   -- for this text's walks alone
set_option linter.unusedVariables false
set_option linter.unusedSimpArgs false
/-! ### spec_ParseExpression: function 42 -/
def spec_ParseExpression.f (k : Nat) (a0_0 : Int) (l0_1 : List Int) (a1 : ByteArray) : Option ((List (S84)) × Int) := (spec_l02Is.f k a0_0 l0_1).bind fun t822 => (if t822 = true then (if (a1.size : Int) > 96 then (some (([] : List (S84)), 6)) else ((spec_l13Read.f k a1 0).bind fun bt823 => (if bt823.2 = (a1.size : Int) then ((spec_IsExpression.f k a0_0 l0_1 bt823.1).bind fun t827 => (if t827 = true then (some (bt823.1, 0)) else (some (([] : List (S84)), 6)))) else (some (([] : List (S84)), 6))))) else (some (([] : List (S84)), 1)))
set_option maxHeartbeats 8000000 in
set_option maxRecDepth 100000 in
theorem spec_ParseExpression.calls (k : Nat) (a0_0 : Int) (A0_1 : Option Addr) (c0_1 : Nat) (l0_1 : List Int) (a1 : ByteArray) (r1 : List (S84)) (r2 : Int) (w : World) (hr0_1 : Kd.C (Kd.int .i64) w A0_1 l0_1.length l0_1) (hc0_1 : l0_1.length ≤ c0_1) (h : spec_ParseExpression.f k a0_0 l0_1 a1 = some (r1, r2)) :
  Calls Tryd.prog 42 #[.agg #[.int .i64 a0_0, .slice A0_1 l0_1.length c0_1], .string a1] w fun e w' => ∃ v0_ : Value, e = .returned (.tuple #[v0_, .int .i64 r2]) ∧ Kd.R k84 84 w' w.heap.size (fun _ => True) v0_ r1 ∧ Below w.heap.size w w' := by
 have hu29 := Tryd.underlying29
 have HR0_1 := Aside0.mk hr0_1
 have HC0_1 := Aside0.mk hc0_1
 clear hr0_1 hc0_1
 have HB := Aside0.mk (Below.refl w.heap.size w)
 have H : ((spec_l02Is.f k a0_0 l0_1).bind fun t822 => (if t822 = true then (if (a1.size : Int) > 96 then (some (([] : List (S84)), 6)) else ((spec_l13Read.f k a1 0).bind fun bt823 => (if bt823.2 = (a1.size : Int) then ((spec_IsExpression.f k a0_0 l0_1 bt823.1).bind fun t827 => (if t827 = true then (some (bt823.1, 0)) else (some (([] : List (S84)), 6)))) else (some (([] : List (S84)), 6))))) else (some (([] : List (S84)), 1)))) = some (r1, r2) := h
 clear h
 replace H := Option.bind_eq_some_iff.mp H
 obtain ⟨t822, A30, H⟩ := H
 replace H : (if t822 = true then (if (a1.size : Int) > 96 then (some (([] : List (S84)), 6)) else ((spec_l13Read.f k a1 0).bind fun bt823 => (if bt823.2 = (a1.size : Int) then ((spec_IsExpression.f k a0_0 l0_1 bt823.1).bind fun t827 => (if t827 = true then (some (bt823.1, 0)) else (some (([] : List (S84)), 6)))) else (some (([] : List (S84)), 6))))) else (some (([] : List (S84)), 1))) = some (r1, r2) := H
 have A3 := Aside0.mk A30
 clear A30
 by_cases c4 : t822 = true
 ·subst c4
  have H1 : (if (a1.size : Int) > 96 then (some (([] : List (S84)), 6)) else ((spec_l13Read.f k a1 0).bind fun bt823 => (if bt823.2 = (a1.size : Int) then ((spec_IsExpression.f k a0_0 l0_1 bt823.1).bind fun t827 => (if t827 = true then (some (bt823.1, 0)) else (some (([] : List (S84)), 6)))) else (some (([] : List (S84)), 6))))) = some (r1, r2) := by rw [if_pos rfl] at H; exact H
  clear H
  have H := H1
  clear H1
  by_cases c5 : (a1.size : Int) > 96
  ·rw [if_pos c5] at H
   have c5b0 : decide (96 < (a1.size : Int)) = true := decide_eq_true c5
   have c5b1 : decide (96 < a1.size) = true := decide_eq_true (by omega)
   clear c5
   simp only [Option.some.injEq, Prod.mk.injEq] at H
   obtain ⟨rfl, rfl⟩ := H
   go_enter Tryd.func42, Tryd.ntmps42
   go_wp2_with (first | ((with_reducible refine gate_dst (N := 2) rfl ?_); refine boxS (N := 2) (cs := #[.int .i64 a0_0, .slice A0_1 l0_1.length c0_1]) (t := 29) ?_; intro gb821 hg w6 hbox hb; have n0_ := Aside0.mk (below_step (bW) hb); have n1_ := Aside0.mk (hbox); have n2_ := geW (w := w) hg; have n3_ := geW (w := w) hg; clear HB; have HB := n0_; have BK821 := n1_; have GW821 := n2_; have GE821 := n3_; clear n0_ n1_ n2_ n3_ hb hbox hg; obtain ⟨hcz7_0, hcz7_1⟩ := cells2 BK821.out; obtain ⟨hfz7_0, hfz7_1⟩ := frz2 BK821.out) | ((with_reducible refine gate_callee (f := 56) rfl ?_); refine goesS (some 9) Tryd.func56 #[.agg #[.int .i64 a0_0, .slice A0_1 l0_1.length c0_1]] ?_; (with_reducible refine (spec_l02Is.calls k a0_0 _ _ l0_1 true _ ?side1 ?side2 A3.out).mono ?_); (case side1 => exact cP (Kd.C_below HR0_1.out HB.out)); (case side2 => exact HC0_1.out); rintro e w8 ⟨rfl, hb⟩; refine ⟨_, rfl, ?_⟩; have n0_ := Aside0.mk (blkB BK821.out hb); have n1_ := Aside0.mk (below_step (bW) hb); clear BK821 HB; have BK821 := n0_; have HB := n1_; clear n0_ n1_; (try clear hb); (try clear hb2); (try clear hk); (try clear hi)))
   go_ret2
   exact ⟨_, eW, by first | exact Kd.R_nil _ _ _ _ _ | exact Kd.N_nil _ _ _ _ _ | exact Kd.V_nil _ _ _ _ _ | exact Kd.Q_nil _ _ _ _ _ | exact Kd.S_nil _ _ _ _ _, bW⟩
  ·rw [if_neg c5] at H
   have c5b0 : decide (96 < (a1.size : Int)) = false := decide_eq_false c5
   have c5b1 : decide (96 < a1.size) = false := decide_eq_false (by omega)
   clear c5
   replace H := Option.bind_eq_some_iff.mp H
   obtain ⟨⟨t823, t824⟩, A90, H⟩ := H
   replace H : (if t824 = (a1.size : Int) then ((spec_IsExpression.f k a0_0 l0_1 t823).bind fun t827 => (if t827 = true then (some (t823, 0)) else (some (([] : List (S84)), 6)))) else (some (([] : List (S84)), 6))) = some (r1, r2) := H
   have A9 := Aside0.mk A90
   clear A90
   by_cases c10 : t824 = (a1.size : Int)
   ·rw [if_pos c10] at H
    have c10b0 : (t824 == (a1.size : Int)) = true := beq_iff_eq.mpr c10
    have c10b1 : (t824 != (a1.size : Int)) = false := bne_eq_false_iff_eq.mpr c10
    clear c10
    replace H := Option.bind_eq_some_iff.mp H
    obtain ⟨t827, A110, H⟩ := H
    replace H : (if t827 = true then (some (t823, 0)) else (some (([] : List (S84)), 6))) = some (r1, r2) := H
    have A11 := Aside0.mk A110
    clear A110
    by_cases c12 : t827 = true
    ·subst c12
     have H1 : (some (t823, 0)) = some (r1, r2) := by rw [if_pos rfl] at H; exact H
     clear H
     have H := H1
     clear H1
     simp only [Option.some.injEq, Prod.mk.injEq] at H
     obtain ⟨rfl, rfl⟩ := H
     go_enter Tryd.func42, Tryd.ntmps42
     go_wp2_with (first | ((with_reducible refine gate_dst (N := 2) rfl ?_); refine boxS (N := 2) (cs := #[.int .i64 a0_0, .slice A0_1 l0_1.length c0_1]) (t := 29) ?_; intro gb821 hg w13 hbox hb; have n0_ := Aside0.mk (below_step (bW) hb); have n1_ := Aside0.mk (hbox); have n2_ := geW (w := w) hg; have n3_ := geW (w := w) hg; clear HB; have HB := n0_; have BK821 := n1_; have GW821 := n2_; have GE821 := n3_; clear n0_ n1_ n2_ n3_ hb hbox hg; obtain ⟨hcz14_0, hcz14_1⟩ := cells2 BK821.out; obtain ⟨hfz14_0, hfz14_1⟩ := frz2 BK821.out) | ((with_reducible refine gate_callee (f := 56) rfl ?_); refine goesS (some 9) Tryd.func56 #[.agg #[.int .i64 a0_0, .slice A0_1 l0_1.length c0_1]] ?_; (with_reducible refine (spec_l02Is.calls k a0_0 _ _ l0_1 true _ ?side1 ?side2 A3.out).mono ?_); (case side1 => exact cP (Kd.C_below HR0_1.out HB.out)); (case side2 => exact HC0_1.out); rintro e w15 ⟨rfl, hb⟩; refine ⟨_, rfl, ?_⟩; have n0_ := Aside0.mk (blkB BK821.out hb); have n1_ := Aside0.mk (below_step (bW) hb); clear BK821 HB; have BK821 := n0_; have HB := n1_; clear n0_ n1_; (try clear hb); (try clear hb2); (try clear hk); (try clear hi)) | ((with_reducible refine gate_callee (f := 86) rfl ?_); refine goesS (some 16) Tryd.func86 #[.string a1, .int .i64 0] ?_; (with_reducible refine (spec_l13Read.calls k a1 0 t823 t824 _ A9.out).mono ?_); rintro e w16 ⟨v825, rfl, ho0, hb⟩; refine ⟨_, rfl, ?_⟩; have n0_ := Aside0.mk (Kd.R_lower ho0 (below_size (bW))); have n1_ := Aside0.mk (blkB BK821.out hb); have n2_ := Aside0.mk (below_step (bW) hb); clear BK821 HB; have HO826 := n0_; have BK821 := n1_; have HB := n2_; clear n0_ n1_ n2_; (try clear hb); (try clear hb2); (try clear hk); (try clear hi); (try clear ho0); obtain ⟨hcz17_0, hcz17_1⟩ := cells2 BK821.out; obtain ⟨hfz17_0, hfz17_1⟩ := frz2 BK821.out; obtain ⟨Ao18, co18, eo18⟩ := Kd.R_slice HO826.out; subst eo18) | (go_at_call 61; (with_reducible refine (spec_IsExpression.calls k a0_0 _ _ l0_1 _ _ t823 true _ ?side1 ?side2 ?side3 ?side4 A11.out).mono ?_); (case side1 => exact cP (Kd.C_below HR0_1.out HB.out)); (case side2 => exact HC0_1.out); (case side3 => exact cP ((Kd.R_reads' HO826.out).2.2)); (case side4 => exact (Kd.R_reads' HO826.out).2.1); rintro e w19 ⟨rfl, hb⟩; have n0_ := Aside0.mk (Kd.R_below (rP HO826.out) hb); have n1_ := Aside0.mk (blkB BK821.out hb); have n2_ := Aside0.mk (below_step (bW) hb); clear HO826 BK821 HB; have HO826 := n0_; have BK821 := n1_; have HB := n2_; clear n0_ n1_ n2_; (try clear hb); (try clear hb2); (try clear hk); (try clear hi)))
     go_ret2
     exact ⟨_, eW, (rP HO826.out), bW⟩
    ·replace c12 := Bool.eq_false_iff.mpr c12
     subst c12
     have H1 : (some (([] : List (S84)), 6)) = some (r1, r2) := by rw [if_neg (show ¬ (false = true) by decide)] at H; exact H
     clear H
     have H := H1
     clear H1
     simp only [Option.some.injEq, Prod.mk.injEq] at H
     obtain ⟨rfl, rfl⟩ := H
     go_enter Tryd.func42, Tryd.ntmps42
     go_wp2_with (first | ((with_reducible refine gate_dst (N := 2) rfl ?_); refine boxS (N := 2) (cs := #[.int .i64 a0_0, .slice A0_1 l0_1.length c0_1]) (t := 29) ?_; intro gb821 hg w20 hbox hb; have n0_ := Aside0.mk (below_step (bW) hb); have n1_ := Aside0.mk (hbox); have n2_ := geW (w := w) hg; have n3_ := geW (w := w) hg; clear HB; have HB := n0_; have BK821 := n1_; have GW821 := n2_; have GE821 := n3_; clear n0_ n1_ n2_ n3_ hb hbox hg; obtain ⟨hcz21_0, hcz21_1⟩ := cells2 BK821.out; obtain ⟨hfz21_0, hfz21_1⟩ := frz2 BK821.out) | ((with_reducible refine gate_callee (f := 56) rfl ?_); refine goesS (some 9) Tryd.func56 #[.agg #[.int .i64 a0_0, .slice A0_1 l0_1.length c0_1]] ?_; (with_reducible refine (spec_l02Is.calls k a0_0 _ _ l0_1 true _ ?side1 ?side2 A3.out).mono ?_); (case side1 => exact cP (Kd.C_below HR0_1.out HB.out)); (case side2 => exact HC0_1.out); rintro e w22 ⟨rfl, hb⟩; refine ⟨_, rfl, ?_⟩; have n0_ := Aside0.mk (blkB BK821.out hb); have n1_ := Aside0.mk (below_step (bW) hb); clear BK821 HB; have BK821 := n0_; have HB := n1_; clear n0_ n1_; (try clear hb); (try clear hb2); (try clear hk); (try clear hi)) | ((with_reducible refine gate_callee (f := 86) rfl ?_); refine goesS (some 16) Tryd.func86 #[.string a1, .int .i64 0] ?_; (with_reducible refine (spec_l13Read.calls k a1 0 t823 t824 _ A9.out).mono ?_); rintro e w23 ⟨v825, rfl, ho0, hb⟩; refine ⟨_, rfl, ?_⟩; have n0_ := Aside0.mk (Kd.R_lower ho0 (below_size (bW))); have n1_ := Aside0.mk (blkB BK821.out hb); have n2_ := Aside0.mk (below_step (bW) hb); clear BK821 HB; have HO826 := n0_; have BK821 := n1_; have HB := n2_; clear n0_ n1_ n2_; (try clear hb); (try clear hb2); (try clear hk); (try clear hi); (try clear ho0); obtain ⟨hcz24_0, hcz24_1⟩ := cells2 BK821.out; obtain ⟨hfz24_0, hfz24_1⟩ := frz2 BK821.out; obtain ⟨Ao25, co25, eo25⟩ := Kd.R_slice HO826.out; subst eo25) | (go_at_call 61; (with_reducible refine (spec_IsExpression.calls k a0_0 _ _ l0_1 _ _ t823 false _ ?side1 ?side2 ?side3 ?side4 A11.out).mono ?_); (case side1 => exact cP (Kd.C_below HR0_1.out HB.out)); (case side2 => exact HC0_1.out); (case side3 => exact cP ((Kd.R_reads' HO826.out).2.2)); (case side4 => exact (Kd.R_reads' HO826.out).2.1); rintro e w26 ⟨rfl, hb⟩; have n0_ := Aside0.mk (Kd.R_below (rP HO826.out) hb); have n1_ := Aside0.mk (blkB BK821.out hb); have n2_ := Aside0.mk (below_step (bW) hb); clear HO826 BK821 HB; have HO826 := n0_; have BK821 := n1_; have HB := n2_; clear n0_ n1_ n2_; (try clear hb); (try clear hb2); (try clear hk); (try clear hi)))
     go_ret2
     exact ⟨_, eW, by first | exact Kd.R_nil _ _ _ _ _ | exact Kd.N_nil _ _ _ _ _ | exact Kd.V_nil _ _ _ _ _ | exact Kd.Q_nil _ _ _ _ _ | exact Kd.S_nil _ _ _ _ _, bW⟩
   ·rw [if_neg c10] at H
    have c10b0 : (t824 == (a1.size : Int)) = false := beq_eq_false_iff_ne.mpr c10
    have c10b1 : (t824 != (a1.size : Int)) = true := bne_iff_ne.mpr c10
    simp only [Option.some.injEq, Prod.mk.injEq] at H
    obtain ⟨rfl, rfl⟩ := H
    go_enter Tryd.func42, Tryd.ntmps42
    go_wp2_with (first | ((with_reducible refine gate_dst (N := 2) rfl ?_); refine boxS (N := 2) (cs := #[.int .i64 a0_0, .slice A0_1 l0_1.length c0_1]) (t := 29) ?_; intro gb821 hg w27 hbox hb; have n0_ := Aside0.mk (below_step (bW) hb); have n1_ := Aside0.mk (hbox); have n2_ := geW (w := w) hg; have n3_ := geW (w := w) hg; clear HB; have HB := n0_; have BK821 := n1_; have GW821 := n2_; have GE821 := n3_; clear n0_ n1_ n2_ n3_ hb hbox hg; obtain ⟨hcz28_0, hcz28_1⟩ := cells2 BK821.out; obtain ⟨hfz28_0, hfz28_1⟩ := frz2 BK821.out) | ((with_reducible refine gate_callee (f := 56) rfl ?_); refine goesS (some 9) Tryd.func56 #[.agg #[.int .i64 a0_0, .slice A0_1 l0_1.length c0_1]] ?_; (with_reducible refine (spec_l02Is.calls k a0_0 _ _ l0_1 true _ ?side1 ?side2 A3.out).mono ?_); (case side1 => exact cP (Kd.C_below HR0_1.out HB.out)); (case side2 => exact HC0_1.out); rintro e w29 ⟨rfl, hb⟩; refine ⟨_, rfl, ?_⟩; have n0_ := Aside0.mk (blkB BK821.out hb); have n1_ := Aside0.mk (below_step (bW) hb); clear BK821 HB; have BK821 := n0_; have HB := n1_; clear n0_ n1_; (try clear hb); (try clear hb2); (try clear hk); (try clear hi)) | ((with_reducible refine gate_callee (f := 86) rfl ?_); refine goesS (some 16) Tryd.func86 #[.string a1, .int .i64 0] ?_; (with_reducible refine (spec_l13Read.calls k a1 0 t823 t824 _ A9.out).mono ?_); rintro e w30 ⟨v825, rfl, ho0, hb⟩; refine ⟨_, rfl, ?_⟩; have n0_ := Aside0.mk (Kd.R_lower ho0 (below_size (bW))); have n1_ := Aside0.mk (blkB BK821.out hb); have n2_ := Aside0.mk (below_step (bW) hb); clear BK821 HB; have HO826 := n0_; have BK821 := n1_; have HB := n2_; clear n0_ n1_ n2_; (try clear hb); (try clear hb2); (try clear hk); (try clear hi); (try clear ho0)))
    go_ret2
    exact ⟨_, eW, by first | exact Kd.R_nil _ _ _ _ _ | exact Kd.N_nil _ _ _ _ _ | exact Kd.V_nil _ _ _ _ _ | exact Kd.Q_nil _ _ _ _ _ | exact Kd.S_nil _ _ _ _ _, bW⟩
 ·replace c4 := Bool.eq_false_iff.mpr c4
  subst c4
  have H1 : (some (([] : List (S84)), 1)) = some (r1, r2) := by rw [if_neg (show ¬ (false = true) by decide)] at H; exact H
  clear H
  have H := H1
  clear H1
  simp only [Option.some.injEq, Prod.mk.injEq] at H
  obtain ⟨rfl, rfl⟩ := H
  go_enter Tryd.func42, Tryd.ntmps42
  go_wp2_with (first | ((with_reducible refine gate_dst (N := 2) rfl ?_); refine boxS (N := 2) (cs := #[.int .i64 a0_0, .slice A0_1 l0_1.length c0_1]) (t := 29) ?_; intro gb821 hg w31 hbox hb; have n0_ := Aside0.mk (below_step (bW) hb); have n1_ := Aside0.mk (hbox); have n2_ := geW (w := w) hg; have n3_ := geW (w := w) hg; clear HB; have HB := n0_; have BK821 := n1_; have GW821 := n2_; have GE821 := n3_; clear n0_ n1_ n2_ n3_ hb hbox hg; obtain ⟨hcz32_0, hcz32_1⟩ := cells2 BK821.out; obtain ⟨hfz32_0, hfz32_1⟩ := frz2 BK821.out) | ((with_reducible refine gate_callee (f := 56) rfl ?_); refine goesS (some 9) Tryd.func56 #[.agg #[.int .i64 a0_0, .slice A0_1 l0_1.length c0_1]] ?_; (with_reducible refine (spec_l02Is.calls k a0_0 _ _ l0_1 false _ ?side1 ?side2 A3.out).mono ?_); (case side1 => exact cP (Kd.C_below HR0_1.out HB.out)); (case side2 => exact HC0_1.out); rintro e w33 ⟨rfl, hb⟩; refine ⟨_, rfl, ?_⟩; have n0_ := Aside0.mk (blkB BK821.out hb); have n1_ := Aside0.mk (below_step (bW) hb); clear BK821 HB; have BK821 := n0_; have HB := n1_; clear n0_ n1_; (try clear hb); (try clear hb2); (try clear hk); (try clear hi)))
  go_ret2
  exact ⟨_, eW, by first | exact Kd.R_nil _ _ _ _ _ | exact Kd.N_nil _ _ _ _ _ | exact Kd.V_nil _ _ _ _ _ | exact Kd.Q_nil _ _ _ _ _ | exact Kd.S_nil _ _ _ _ _, bW⟩
/-! ### stringslite_HasPrefix: function 158 -/
def stringslite_HasPrefix.f (a0 : ByteArray) (a1 : ByteArray) : Option (Bool) := if (a0.size : Int) ≥ (a1.size : Int) then (if 0 ≤ (a1.size : Int) then (if (a1.size : Int) ≤ (a0.size : Int) then (some ((a0.extract 0 ((a1.size : Int) : Int).toNat).toList == a1.toList)) else (none)) else (none)) else (some false)
set_option maxHeartbeats 8000000 in
set_option maxRecDepth 100000 in
theorem stringslite_HasPrefix.calls (a0 : ByteArray) (a1 : ByteArray) (r : Bool) (w : World) (h : stringslite_HasPrefix.f a0 a1 = some r) :
  Calls Tryd.prog 158 #[.string a0, .string a1] w fun e w' => e = .returned (.bool r) ∧ Drawn0 w w' := by
 have H : (if (a0.size : Int) ≥ (a1.size : Int) then (if 0 ≤ (a1.size : Int) then (if (a1.size : Int) ≤ (a0.size : Int) then (some ((a0.extract 0 ((a1.size : Int) : Int).toNat).toList == a1.toList)) else (none)) else (none)) else (some false)) = some r := h
 clear h
 by_cases c3 : (a0.size : Int) ≥ (a1.size : Int)
 ·rw [if_pos c3] at H
  have c3b0 : decide ((a1.size : Int) ≤ (a0.size : Int)) = true := decide_eq_true c3
  have c3b1 : decide (a1.size ≤ a0.size) = true := decide_eq_true (Int.ofNat_le.mp c3)
  clear c3
  by_cases c4 : 0 ≤ (a1.size : Int)
  ·rw [if_pos c4] at H
   have c4b0 := eq_true c4
   have c4b1 : decide (0 ≤ (a1.size : Int)) = true := decide_eq_true c4
   clear c4
   by_cases c5 : (a1.size : Int) ≤ (a0.size : Int)
   ·rw [if_pos c5] at H
    have c5b0 := eq_true c5
    have c5b1 : decide ((a1.size : Int) ≤ (a0.size : Int)) = true := decide_eq_true c5
    clear c5
    obtain rfl := Option.some.inj H
    go_enter Tryd.func158, Tryd.ntmps158
    go_wp2
    go_ret
    exact ⟨eW, by repeat (first | exact Drawn0.refl _ | apply Drawn0.step)⟩
   ·rw [if_neg c5] at H
    exact absurd H (by simp)
  ·rw [if_neg c4] at H
   exact absurd H (by simp)
 ·rw [if_neg c3] at H
  have c3b0 : decide ((a1.size : Int) ≤ (a0.size : Int)) = false := decide_eq_false c3
  have c3b1 : decide (a1.size ≤ a0.size) = false := decide_eq_false (fun h => c3 (Int.ofNat_le.mpr h))
  clear c3
  obtain rfl := Option.some.inj H
  go_enter Tryd.func158, Tryd.ntmps158
  go_wp2
  go_ret
  exact ⟨eW, by repeat (first | exact Drawn0.refl _ | apply Drawn0.step)⟩
/-! ### strings_HasPrefix: function 136 -/
def strings_HasPrefix.f (a0 : ByteArray) (a1 : ByteArray) : Option (Bool) := (stringslite_HasPrefix.f a0 a1).bind fun t828 => (some t828)
set_option maxHeartbeats 8000000 in
set_option maxRecDepth 100000 in
theorem strings_HasPrefix.calls (a0 : ByteArray) (a1 : ByteArray) (r : Bool) (w : World) (h : strings_HasPrefix.f a0 a1 = some r) :
  Calls Tryd.prog 136 #[.string a0, .string a1] w fun e w' => e = .returned (.bool r) ∧ Drawn0 w w' := by
 have H : ((stringslite_HasPrefix.f a0 a1).bind fun t828 => (some t828)) = some r := h
 clear h
 replace H := Option.bind_eq_some_iff.mp H
 obtain ⟨t828, A30, H⟩ := H
 replace H : (some t828) = some r := H
 have A3 := Aside0.mk A30
 clear A30
 obtain rfl := Option.some.inj H
 go_enter Tryd.func136, Tryd.ntmps136
 go_wp2_with (first | ((with_reducible refine gate_callee (f := 158) rfl ?_); refine goesS (some 7) Tryd.func158 #[.string a0, .string a1] ?_; (with_reducible refine (stringslite_HasPrefix.calls a0 a1 t828 _ A3.out).mono ?_); rintro e w' ⟨rfl, ⟨nd, rfl⟩⟩; refine ⟨_, rfl, ?_⟩))
 go_ret
 exact ⟨eW, by repeat (first | exact Drawn0.refl _ | apply Drawn0.step)⟩
/-! ### impl_Term_159: function 159 -/
def impl_Term_159.f (l0 : List S84) (a1 : Int) : Option (List S84) := if l0.length = 0 ∧ 0 ≤ a1 ∧ a1 < 8796093022207 then some [] else none
set_option maxHeartbeats 8000000 in
set_option maxRecDepth 100000 in
theorem impl_Term_159.calls (A0 : Option Addr) (c0 : Nat) (l0 : List S84) (a1 : Int) (r : List S84) (w : World) (hr0 : A0 = none ∧ c0 = 0) (hc0 : l0.length ≤ c0) (h : impl_Term_159.f l0 a1 = some r) :
    Calls Tryd.prog 159 #[.slice A0 l0.length c0, .int .i64 a1] w fun e w' => ∃ v0_ : Value, e = .returned (v0_) ∧ Kd.R k84 84 w' w.heap.size (fun _ => True) v0_ r ∧ Below w.heap.size w w' := by
  obtain ⟨rfl, rfl⟩ := hr0
  unfold impl_Term_159.f at h
  by_cases hc : l0.length = 0 ∧ 0 ≤ a1 ∧ a1 < 8796093022207
  · rw [if_pos hc] at h
    obtain rfl := Option.some.inj h
    clear h hc0
    obtain ⟨hl, h0, h1⟩ := hc
    rw [hl]
    clear hl l0
    obtain ⟨i0, hi0, _, hsz, _⟩ := info_parts info84
    have hcut0 := cut_to (P := Tryd.prog) 39 84 .i64 Tryd.underlying39 hi0 none 0 0 0 (by omega) (by omega) (by omega)
    have HB := Aside0.mk (Below.refl w.heap.size w)
    by_cases hz : a1 = 0
    · subst hz
      clear h0 h1
      go_enter Tryd.func159, Tryd.ntmps159
      go_wp2
      go_ret
      exact ⟨_, rfl, Kd.R_nil _ _ _ _ _, Below.refl _ _⟩
    · have hp : 0 < a1 := by omega
      have HP := Aside0.mk h0
      have HL := Aside0.mk h1
      have hn0 : IntKind.i64.wrap (a1 - 0) = a1 := by rw [Int.sub_zero]; exact IntWalk.i64_in _ (by omega)
      have hnl : ¬ a1 < 0 := by omega
      clear hz h0
      go_enter Tryd.func159, Tryd.ntmps159
      go_wp2_with ((with_reducible refine gate_builtin (b := .append) (xs := #[.tmp 20, .tmp 21]) rfl ?_); refine Kd.R_append_zeros k84 (w0 := w) w.heap.size rfl (.tmp 20) (.tmp 21) 39 3 84 (.agg #[.int .i64 0, .int .i64 0]) 16 rfl Tryd.underlying39 Tryd.underlying3 info84 rfl (by decide) (by omega) (.slice none 0 0) [] z84 a1 (fun _ => True) rfl rfl (k84_mkM _ _ _ z84) (fun _ _ => trivial) (Kd.R_nil _ _ _ _ _) HP.out HB.out (Nat.le_refl _) (by have := HL.out; have := HP.out; simp only [List.length_nil]; omega) ?_; intro v1 w1 ho hb hg hat; clear hg hat; obtain ⟨A1, c1, e1⟩ := Kd.R_slice ho; subst e1; have hcap := (Kd.R_reads' ho).2.1; rw [List.nil_append, List.length_replicate] at hcap ho ⊢; have hcut1 := cut_to (P := Tryd.prog) 39 84 .i64 Tryd.underlying39 hi0 A1 a1.toNat c1 0 (by omega) (by have := HP.out; omega) hcap; have HR := Aside0.mk (Kd.R_take (m := 0) ho (by omega)); have HB1 := Aside0.mk hb; clear ho hb hcap)
      go_ret
      exact ⟨_, rfl, HR.out, HB1.out⟩
  · rw [if_neg hc] at h
    cases h
/-! ### impl_Term_137: function 137 -/
mutual
def impl_Term_137.l0 : Nat → List (List (S84)) → Int → List (List (S84)) → Int → Int → Option ((List (S84)))
 | 0, _, _, _, _, _ => none
 | k + 1, x0, x3, x9, x10, x11 => if x11 < x10 then (if 0 ≤ x11 then (if x11 < (x9.length : Int) then (if (wrap64 (x3 + ((rd_L7 x9 x11).length : Int))) < 0 then (none) else (impl_Term_137.l0 k x0 (wrap64 (x3 + ((rd_L7 x9 x11).length : Int))) x9 x10 (wrap64 (x11 + 1)))) else (none)) else (none)) else ((impl_Term_159.f ([] : List (S84)) x3).bind fun t830 => (impl_Term_137.l1 k t830 x0 (x0.length : Int) 0))
def impl_Term_137.l1 : Nat → List (S84) → List (List (S84)) → Int → Int → Option ((List (S84)))
 | 0, _, _, _, _ => none
 | k + 1, x6, x25, x26, x27 => if x27 < x26 then (if 0 ≤ x27 then (if x27 < (x25.length : Int) then (if x6.length + (rd_L7 x25 x27).length < 8796093022208 then (impl_Term_137.l1 k (x6 ++ (rd_L7 x25 x27)) x25 x26 (wrap64 (x27 + 1))) else (none)) else (none)) else (none)) else (some x6)
end
def impl_Term_137.f (k : Nat) (l0 : List (List (S84))) : Option ((List (S84))) := impl_Term_137.l0 k l0 0 l0 (l0.length : Int) 0
set_option maxHeartbeats 8000000 in
set_option maxRecDepth 100000 in
theorem impl_Term_137.calls (k : Nat) (A0 : Option Addr) (c0 : Nat) (l0 : List (List (S84))) (r : List (S84)) (w : World) (hr0 : Kd.C (Kd.slice 84 k84) w A0 l0.length l0) (hc0 : l0.length ≤ c0) (h : impl_Term_137.f k l0 = some r) :
  Calls Tryd.prog 137 #[.slice A0 l0.length c0] w fun e w' => ∃ v0_ : Value, e = .returned (v0_) ∧ Kd.R k84 84 w' w.heap.size (fun _ => True) v0_ r ∧ Below w.heap.size w w' := by
 have HR0 := Aside0.mk hr0
 have HC0 := Aside0.mk hc0
 clear hr0 hc0
 have HB := Aside0.mk (Below.refl w.heap.size w)
 have H : (impl_Term_137.l0 k l0 0 l0 (l0.length : Int) 0) = some r := h
 clear h
 have H' := Aside0.mk H
 clear H
 go_enter Tryd.func137, Tryd.ntmps137
 go_wp2
 go_loopg [3, 11] k (fun kq v3 v11 w' => ∃ (x3_1 : Int) (x11_1 : Int), v3 = .int .i64 x3_1 ∧ v11 = .int .i64 x11_1 ∧ Aside0 (impl_Term_137.l0 kq l0 x3_1 l0 (l0.length : Int) x11_1 = some r) ∧ Aside0 (kq ≤ k) ∧ Aside0 (Below w.heap.size w w'))
 case atStart => exact ⟨(0), (0), (eW), (eW), H', ⟨Nat.le_refl _⟩, ⟨bW⟩⟩
 case round =>
  clear H'
  try clear c1
  obtain ⟨x3_1, x11_1, rfl, rfl, HA, HK1, HB⟩ := hrel
  cases gk with
  | zero => exact absurd HA.out (by simp [impl_Term_137.l0])
  | succ k1 =>
   have H := HA.out
   clear HA
   simp only [impl_Term_137.l0] at H
   by_cases c2 : x11_1 < (l0.length : Int)
   ·rw [if_pos c2] at H
    have c2b0 : decide (x11_1 < (l0.length : Int)) = true := decide_eq_true c2
    clear c2
    by_cases c3 : 0 ≤ x11_1
    ·rw [if_pos c3] at H
     have c3b0 : decide (0 ≤ x11_1) = true := decide_eq_true c3
     clear c3
     by_cases c4 : x11_1 < (l0.length : Int)
     ·rw [if_pos c4] at H
      have c4b0 : decide (x11_1 < (l0.length : Int)) = true := decide_eq_true c4
      clear c4
      by_cases c5 : (wrap64 (x3_1 + ((rd_L7 l0 x11_1).length : Int))) < 0
      ·rw [if_pos c5] at H
       exact absurd H (by simp)
      ·rw [if_neg c5] at H
       have c5b0 : decide ((wrap64 (x3_1 + ((rd_L7 l0 x11_1).length : Int))) < 0) = false := decide_eq_false c5
       clear c5
       have H' := Aside0.mk H
       clear H
       have p829 : 0 ≤ (x11_1 : Int) := ofD
       have q829 : x11_1 < (l0.length : Int) := ofD
       obtain ⟨ad829, A829_0, c829_0, e829, hx829_0, hl829_0, hi829_0⟩ := at_L7 HR0.out x11_1 p829 q829
       cases e829
       replace hx829_0 := (HB.out.cell (World.block_lt_of_cell? w _ hx829_0)).trans hx829_0
       have HR829_0 := Aside0.mk hi829_0
       have HC829_0 := Aside0.mk hl829_0
       clear hi829_0 hl829_0
       replace p829 := eq_true p829
       replace q829 := eq_true q829
       go_wp2
       go_roundg k1
       case measure => have := HK1.out; omega
       case rel => exact ⟨(wrap64 (x3_1 + ((rd_L7 l0 x11_1).length : Int))), (wrap64 (x11_1 + 1)), (eW), (eW), H', ⟨by have := HK1.out; omega⟩, ⟨bW⟩⟩
     ·rw [if_neg c4] at H
      exact absurd H (by simp)
    ·rw [if_neg c3] at H
     exact absurd H (by simp)
   ·rw [if_neg c2] at H
    have c2b0 : decide (x11_1 < (l0.length : Int)) = false := decide_eq_false c2
    clear c2
    replace H := Option.bind_eq_some_iff.mp H
    obtain ⟨t830, A60, H⟩ := H
    replace H : (impl_Term_137.l1 k1 t830 l0 (l0.length : Int) 0) = some r := H
    have A6 := Aside0.mk A60
    clear A60
    have H' := Aside0.mk H
    clear H
    go_wp2_with (first | ((with_reducible refine gate_callee (f := 159) rfl ?_); refine goesS (some 24) Tryd.func159 #[.slice none 0 0, .int .i64 x3_1] ?_; (refine (impl_Term_159.calls _ _ ([] : List (S84)) x3_1 t830 _ ?side1 ?side2 A6.out).mono ?_); (case side1 => exact ⟨rfl, rfl⟩); (case side2 => exact Nat.le_refl _); rintro e w7 ⟨v831, rfl, ho0, hb⟩; refine ⟨_, rfl, ?_⟩; have n0_ := Aside0.mk (Kd.R_lower ho0 (below_size (bW))); have n1_ := Aside0.mk (below_step (bW) hb); clear HB; have HO832 := n0_; have HB := n1_; clear n0_ n1_; (try clear hb); (try clear hb2); (try clear hk); (try clear hi); (try clear ho0)))
    go_loopg [6, 27] k1 (fun kq v6 v27 w' => ∃ (x6_2 : List (S84)) (x27_2 : Int), v27 = .int .i64 x27_2 ∧ Aside0 (impl_Term_137.l1 kq x6_2 l0 (l0.length : Int) x27_2 = some r) ∧ Aside0 (kq ≤ k1) ∧ Aside0 (Kd.R k84 84 w' w.heap.size (fun _ => True) v6 x6_2) ∧ Aside0 (Below w.heap.size w w'))
    case atStart => exact ⟨(t830), (0), (eW), H', ⟨Nat.le_refl _⟩, ⟨(rP HO832.out)⟩, ⟨bW⟩⟩
    case round =>
     clear H'
     try clear c1
     try clear c2
     try clear c2b0
     try clear p2
     try clear c3
     try clear c3b0
     try clear c4
     try clear c4b0
     try clear c5
     try clear c5b0
     try clear p6
     try clear hx829_0
     try clear p829
     try clear q829
     obtain ⟨x6_2, x27_2, rfl, HA, HK2, HO_6, HB⟩ := hrel
     cases gk with
     | zero => exact absurd HA.out (by simp [impl_Term_137.l1])
     | succ k2 =>
      have H := HA.out
      clear HA
      simp only [impl_Term_137.l1] at H
      by_cases c8 : x27_2 < (l0.length : Int)
      ·rw [if_pos c8] at H
       have c8b0 : decide (x27_2 < (l0.length : Int)) = true := decide_eq_true c8
       clear c8
       by_cases c9 : 0 ≤ x27_2
       ·rw [if_pos c9] at H
        have c9b0 : decide (0 ≤ x27_2) = true := decide_eq_true c9
        clear c9
        by_cases c10 : x27_2 < (l0.length : Int)
        ·rw [if_pos c10] at H
         have c10b0 : decide (x27_2 < (l0.length : Int)) = true := decide_eq_true c10
         clear c10
         by_cases c11 : x6_2.length + (rd_L7 l0 x27_2).length < 8796093022208
         ·rw [if_pos c11] at H
          have LMc11 := Aside0.mk c11
          clear c11
          obtain ⟨y834, hy834⟩ : ∃ y_ : List (S84), y_ = (x6_2 ++ (rd_L7 l0 x27_2)) := ⟨_, rfl⟩
          replace H : (impl_Term_137.l1 k2 y834 l0 (l0.length : Int) (wrap64 (x27_2 + 1))) = some r := by first | (rw [hy834]; with_reducible exact H) | (have H2_ := (Option.bind_some _ _).symm.trans H; rw [hy834]; with_reducible exact H2_) | (have H2_ := (Option.bind_some _ _).symm.trans H; with_reducible exact H2_) | with_reducible exact H | (rw [hy834]; exact H) | exact H
          have Ny834 := Aside0.mk hy834
          clear hy834
          have H' := Aside0.mk H
          clear H
          have p833 : 0 ≤ (x27_2 : Int) := ofD
          have q833 : x27_2 < (l0.length : Int) := ofD
          obtain ⟨ad833, A833_0, c833_0, e833, hx833_0, hl833_0, hi833_0⟩ := at_L7 HR0.out x27_2 p833 q833
          cases e833
          replace hx833_0 := (HB.out.cell (World.block_lt_of_cell? w _ hx833_0)).trans hx833_0
          have HR833_0 := Aside0.mk hi833_0
          have HC833_0 := Aside0.mk hl833_0
          clear hi833_0 hl833_0
          replace p833 := eq_true p833
          replace q833 := eq_true q833
          go_wp2_with (first | ((with_reducible refine gate_builtin (b := .append) (xs := #[.tmp 31, .tmp 32]) rfl ?_); at_builtin; refine Kd.R_append_rows k84 (w0 := w) w.heap.size rfl (.tmp 31) (.tmp 32) 39 84 (.agg #[(.int .i64 0), (.int .i64 0)]) 16 rfl Tryd.underlying39 info84 rfl (by decide) (by omega) u6 x6_2 (rd_L7 l0 x27_2) _ _ _ (fun _ => True) (fun _ => False) rfl rfl ?aO ?aR (fun _ _ h => h) (fun _ h => h.elim) ?aF ?aB ?aS ?aL ?_; (case aR => exact cP (Kd.C_below HR833_0.out HB.out)); (case aB => exact (bW)); (case aF => exact (fun _ _ => trivial)); (case aO => exact (rP HO_6.out)); (case aS => exact (below_size (bW))); (case aL => have := LMc11.out; omega); intro v835 w12 ho hb hg hat; rw [← Ny834.out] at ho; have n0_ := Aside0.mk (hb); have n1_ := Aside0.mk (ho); clear HB HO_6; have HB := n0_; have HO836 := n1_; clear n0_ n1_ ho hb hg hat))
          go_roundg k2
          case measure => have := HK1.out; have := HK2.out; omega
          case rel => exact ⟨(y834), (wrap64 (x27_2 + 1)), (eW), H', ⟨by have := HK1.out; have := HK2.out; omega⟩, ⟨(rP HO836.out)⟩, ⟨bW⟩⟩
         ·rw [if_neg c11] at H
          exact absurd H (by simp)
        ·rw [if_neg c10] at H
         exact absurd H (by simp)
       ·rw [if_neg c9] at H
        exact absurd H (by simp)
      ·rw [if_neg c8] at H
       have c8b0 : decide (x27_2 < (l0.length : Int)) = false := decide_eq_false c8
       clear c8
       obtain rfl := Option.some.inj H
       go_wp2
       go_ret
       exact ⟨_, eW, (rP HO_6.out), bW⟩
end Go.Proofs.YthbaocejgjpfoaaDoor.P
end M1
