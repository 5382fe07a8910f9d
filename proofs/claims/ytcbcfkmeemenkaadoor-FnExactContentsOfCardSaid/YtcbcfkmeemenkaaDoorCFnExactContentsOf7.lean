import Derived.ArgAppend
import Derived.Below
import Derived.BigQuiet
import Derived.Deep.AppendLies
import Derived.Deep.CutBlock
import Derived.Deep.DeepCutAuto
import Derived.Deep.Draws
import Derived.Deep.LoopGhost
import Derived.Deep.OwnRows
import Derived.Deep.QuietTactic
import Derived.Deep.RegionHeld3
import Derived.KernelRfl
import Derived.Laws.BitsLemmas
import Derived.Laws.BytesArg
import Derived.Laws.IdiomCopy
import Derived.Laws.MakeOwn
import Derived.Laws.OwnMore
import Derived.Laws.Rows
import Derived.Laws.Slices
import Derived.Laws.StructEq
import Derived.Lib.AppendStr
import Derived.Lib.ConvBytes
import Derived.Lib.SliceRun
import Derived.Maps.AppendAt
import Derived.OrdersHeld
import Derived.OwnWalk
import Derived.RowKit
import Derived.RowKit3
import Derived.Shelf.Abstract
import Derived.Shelf.SlicesG.CompactI
import Derived.Shelf.SortM.Plain
import Derived.Shelf.SortM.SortNone
import Derived.Shelf.Spec.TrailingZeros
import Derived.Sort.Grow
import Derived.Tactics
import Derived.Test.YtcbcfkmeemenkaaDoorProg
import Derived.WalkKit
import Derived.WideLaws
import Derived.Test.YtcbcfkmeemenkaaDoorCFnExactContentsOf2
import Derived.Test.YtcbcfkmeemenkaaDoorCFnExactContentsOf4
import Derived.Test.YtcbcfkmeemenkaaDoorCFnExactContentsOf6
section M0
namespace Go.Proofs.YtcbcfkmeemenkaaDoor.P
open Go.RowKit Go.Proofs.YtcbcfkmeemenkaaDoor.Sh Go.Proofs.YtcbcfkmeemenkaaDoorW.PrintWords Go.Proofs.YtcbcfkmeemenkaaDoorW.PrintLast Go.Proofs.YtcbcfkmeemenkaaDoorW.PrintMore
attribute [local go_sem] max2_int min2_int max_two min_two max_three min_three max_four min_four   -- for this text's walks alone
set_option linter.unusedVariables false
set_option linter.unusedSimpArgs false
/-! ### impl_contents: function 29 -/
mutual
def impl_contents.l0 : Nat → List (List (S50)) → List Int → List Int → Int → Int → Option (List Int)
 | 0, _, _, _, _, _ => none
 | k + 1, x3, x4, x81, x82, x83 => if x83 < x82 then (if 0 ≤ x83 then (if x83 < (x81.length : Int) then (if 1 < (x3.length : Int) then ((impl_contents.f k (rd_L6 x3 1)).bind fun t308 => (impl_contents.l1 k x3 x4 (rd x81 x83) x81 x82 x83 t308 (t308.length : Int) 0)) else (none)) else (none)) else (none)) else ((slices_Sort_int64_int64.f x4).bind fun t302 => ((slices_Compact_int64_int64.f t302).bind fun t303 => (some t303)))
def impl_contents.l1 : Nat → List (List (S50)) → List Int → Int → List Int → Int → Int → List Int → Int → Int → Option (List Int)
 | 0, _, _, _, _, _, _, _, _, _ => none
 | k + 1, x3, x4, x7, x81, x82, x83, x90, x91, x92 => if x92 < x91 then (if 0 ≤ x92 then (if x92 < (x90.length : Int) then (if x4.length < 17592186044416 then (impl_contents.l1 k x3 (x4 ++ [Go.bits .or .i64 x7 (rd x90 x92)]) x7 x81 x82 x83 x90 x91 (wrap64 (x92 + 1))) else (none)) else (none)) else (none)) else (impl_contents.l0 k x3 x4 x81 x82 (wrap64 (x83 + 1)))
def impl_contents.l2 : Nat → List Int → List Int → Int → Int → Option (List Int)
 | 0, _, _, _, _ => none
 | k + 1, x4, x43, x44, x45 => if x45 < x44 then (if 0 ≤ x45 then (if x45 < (x43.length : Int) then ((slices_Clone_int64_int64.f x4).bind fun t323 => (impl_contents.l3 k x4 (rd x43 x45) x43 x44 x45 t323 (t323.length : Int) 0)) else (none)) else (none)) else ((slices_Sort_int64_int64.f x4).bind fun t318 => ((slices_Compact_int64_int64.f t318).bind fun t319 => (some t319)))
def impl_contents.l3 : Nat → List Int → Int → List Int → Int → Int → List Int → Int → Int → Option (List Int)
 | 0, _, _, _, _, _, _, _, _ => none
 | k + 1, x4, x11, x43, x44, x45, x50, x51, x52 => if x52 < x51 then (if 0 ≤ x52 then (if x52 < (x50.length : Int) then ((slices_Contains_int64_int64.f k x4 (Go.bits .or .i64 x11 (rd x50 x52))).bind fun t327 => (if t327 = true then (impl_contents.l3 k x4 x11 x43 x44 x45 x50 x51 (wrap64 (x52 + 1))) else (if x4.length < 17592186044416 then (impl_contents.l3 k (x4 ++ [Go.bits .or .i64 x11 (rd x50 x52)]) x11 x43 x44 x45 x50 x51 (wrap64 (x52 + 1))) else (none)))) else (none)) else (none)) else (impl_contents.l2 k x4 x43 x44 (wrap64 (x45 + 1)))
def impl_contents.f : Nat → List (S50) → Option (List Int)
 | 0, _ => none
 | k + 1, l0 => if 0 < (l0.length : Int) then (if ((rd_T50 l0 0).f0) = 0 then (some ([] : List Int)) else (if ((rd_T50 l0 0).f0) = 1 then (some (([0] : List Int))) else (if ((rd_T50 l0 0).f0) = 2 then ((impl_one.f ((rd_T50 l0 0).f1)).bind fun t273 => (some (([t273] : List Int)))) else ((impl_parts.f k l0).bind fun t277 => (if 0 < (t277.length : Int) then ((impl_contents.f k (rd_L6 t277 0)).bind fun t284 => (if ((rd_T50 l0 0).f0) = 3 then (if 1 < (t277.length : Int) then ((impl_contents.f k (rd_L6 t277 1)).bind fun t289 => ((slices_Concat_int64_int64.f k (([t284, t289] : List (List Int)))).bind fun t295 => ((slices_Sort_int64_int64.f t295).bind fun t298 => ((slices_Compact_int64_int64.f t298).bind fun t299 => (some t299))))) else (none)) else (if ((rd_T50 l0 0).f0) = 4 then (impl_contents.l0 k t277 (([] : List Int)) t284 (t284.length : Int) 0) else (impl_contents.l2 k (([0] : List Int)) t284 (t284.length : Int) 0)))) else (none)))))) else (none)
end
set_option maxHeartbeats 8000000 in
set_option maxRecDepth 100000 in
theorem impl_contents.calls (k : Nat) : ∀ (A0 : Option Addr) (c0 : Nat) (l0 : List (S50)) (r : List Int) (w : World) (hr0 : Kd.C k50 w A0 l0.length l0) (hc0 : l0.length ≤ c0) (h : impl_contents.f k l0 = some r),
  Calls Tryd.prog 29 #[.slice A0 l0.length c0] w fun e w' => ∃ v0_ : Value, e = .returned (v0_) ∧ Kd.R (Kd.int .i64) 2 w' w.heap.size (fun _ => True) v0_ r ∧ Below w.heap.size w w' := by
 induction k using Nat.strongRecOn with
 | _ k ih =>
 intro A0 c0 l0 r w hr0 hc0 h
 cases k with
 | zero => exact absurd h (by simp [impl_contents.f])
 | succ k =>
 simp only [impl_contents.f] at h
 have HR0 := Aside0.mk hr0
 have HC0 := Aside0.mk hc0
 clear hr0 hc0
 have HB := Aside0.mk (Below.refl w.heap.size w)
 have H : (if 0 < (l0.length : Int) then (if ((rd_T50 l0 0).f0) = 0 then (some ([] : List Int)) else (if ((rd_T50 l0 0).f0) = 1 then (some (([0] : List Int))) else (if ((rd_T50 l0 0).f0) = 2 then ((impl_one.f ((rd_T50 l0 0).f1)).bind fun t273 => (some (([t273] : List Int)))) else ((impl_parts.f k l0).bind fun t277 => (if 0 < (t277.length : Int) then ((impl_contents.f k (rd_L6 t277 0)).bind fun t284 => (if ((rd_T50 l0 0).f0) = 3 then (if 1 < (t277.length : Int) then ((impl_contents.f k (rd_L6 t277 1)).bind fun t289 => ((slices_Concat_int64_int64.f k (([t284, t289] : List (List Int)))).bind fun t295 => ((slices_Sort_int64_int64.f t295).bind fun t298 => ((slices_Compact_int64_int64.f t298).bind fun t299 => (some t299))))) else (none)) else (if ((rd_T50 l0 0).f0) = 4 then (impl_contents.l0 k t277 (([] : List Int)) t284 (t284.length : Int) 0) else (impl_contents.l2 k (([0] : List Int)) t284 (t284.length : Int) 0)))) else (none)))))) else (none)) = some r := h
 clear h
 by_cases c2 : 0 < (l0.length : Int)
 ·rw [if_pos c2] at H
  have c2b0 : decide (0 < (l0.length : Int)) = true := decide_eq_true c2
  have c2b1 : decide (0 < l0.length) = true := decide_eq_true (by omega)
  clear c2
  by_cases c3 : ((rd_T50 l0 0).f0) = 0
  ·rw [if_pos c3] at H
   have c3b0 : (((rd_T50 l0 0).f0) == 0) = true := beq_iff_eq.mpr c3
   have c3b1 : (((rd_T50 l0 0).f0) != 0) = false := bne_eq_false_iff_eq.mpr c3
   clear c3
   obtain rfl := Option.some.inj H
   have p268 : 0 ≤ (0 : Int) := (by omega)
   have q268 : 0 < (l0.length : Int) := ofD
   obtain ⟨ad268, e268, hx268_0, hx268_1⟩ := at_T50 HR0.out 0 p268 q268
   cases e268
   have qi268 : (0 < l0.length) = True := eq_true (by omega)
   (try rw [show ((0 : Int)).toNat = 0 from rfl] at hx268_0)
   (try rw [show 0 * 2 = 0 from rfl] at hx268_0)
   (try rw [Addr.add_zero'] at hx268_0)
   (try rw [show ((0 : Int)).toNat = 0 from rfl] at hx268_1)
   (try rw [show 0 * 2 = 0 from rfl] at hx268_1)
   (try rw [Addr.add_zero'] at hx268_1)
   replace p268 := eq_true p268
   replace q268 := eq_true q268
   go_enter Tryd.func29, Tryd.ntmps29
   go_wp2
   go_ret
   exact ⟨_, eW, by first | exact Kd.R_nil _ _ _ _ _ | exact Kd.N_nil _ _ _ _ _ | exact Kd.V_nil _ _ _ _ _ | exact Kd.Q_nil _ _ _ _ _ | exact Kd.S_nil _ _ _ _ _, bW⟩
  ·rw [if_neg c3] at H
   have c3b0 : (((rd_T50 l0 0).f0) == 0) = false := beq_eq_false_iff_ne.mpr c3
   have c3b1 : (((rd_T50 l0 0).f0) != 0) = true := bne_iff_ne.mpr c3
   by_cases c4 : ((rd_T50 l0 0).f0) = 1
   ·rw [if_pos c4] at H
    have c4b0 : (((rd_T50 l0 0).f0) == 1) = true := beq_iff_eq.mpr c4
    have c4b1 : (((rd_T50 l0 0).f0) != 1) = false := bne_eq_false_iff_eq.mpr c4
    clear c4
    obtain ⟨y269, hy269⟩ : ∃ y_ : List Int, y_ = (([0] : List Int)) := ⟨_, rfl⟩
    replace H : (some y269) = some r := by first | (rw [hy269]; with_reducible exact H) | (have H2_ := (Option.bind_some _ _).symm.trans H; rw [hy269]; with_reducible exact H2_) | (have H2_ := (Option.bind_some _ _).symm.trans H; with_reducible exact H2_) | with_reducible exact H | (rw [hy269]; exact H) | exact H
    have Ny269 := Aside0.mk hy269
    clear hy269
    obtain rfl := Option.some.inj H
    have p268 : 0 ≤ (0 : Int) := (by omega)
    have q268 : 0 < (l0.length : Int) := ofD
    obtain ⟨ad268, e268, hx268_0, hx268_1⟩ := at_T50 HR0.out 0 p268 q268
    cases e268
    have qi268 : (0 < l0.length) = True := eq_true (by omega)
    (try rw [show ((0 : Int)).toNat = 0 from rfl] at hx268_0)
    (try rw [show 0 * 2 = 0 from rfl] at hx268_0)
    (try rw [Addr.add_zero'] at hx268_0)
    (try rw [show ((0 : Int)).toNat = 0 from rfl] at hx268_1)
    (try rw [show 0 * 2 = 0 from rfl] at hx268_1)
    (try rw [Addr.add_zero'] at hx268_1)
    replace p268 := eq_true p268
    replace q268 := eq_true q268
    go_enter Tryd.func29, Tryd.ntmps29
    go_wp2_with (first | ((with_reducible refine gate_dst (N := 22) rfl ?_); refine Kd.R_lit (Kd.int .i64) _ 2 ?hg (N := 22) ?hd (xs := ([0] : List Int)) (inner := [.int .i64 0]) (ok := fun _ => True) (okp := fun _ => True) ?hr ?hp (fun _ hk => hk) trivial (Below.refl _ _) (Nat.le_refl _) (by simp) ?_; (case hd => rfl); (case hg => rfl); (case hr => first | (go_simp; done) | (go_simp; rfl)); (case hp => exact (Reps.one (show Kd.M (Kd.int .i64) _ _ _ 0 [.int .i64 0] from rfl) (Reps.none _ _))); intro v270 w5 ho6 hb hg_ hnew_; clear hg_ hnew_; (first | rw [← Ny269.out] at ho6 | (simp only [Int.reduceToNat] at ho6; rw [← Ny269.out] at ho6)); have n0_ := Aside0.mk (Kd.R_lower ho6 (below_size (bW))); have n1_ := Aside0.mk (below_step (bW) hb); clear HB; have HO271 := n0_; have HB := n1_; clear n0_ n1_ hb ho6))
    go_ret
    exact ⟨_, eW, (rP HO271.out), bW⟩
   ·rw [if_neg c4] at H
    have c4b0 : (((rd_T50 l0 0).f0) == 1) = false := beq_eq_false_iff_ne.mpr c4
    have c4b1 : (((rd_T50 l0 0).f0) != 1) = true := bne_iff_ne.mpr c4
    by_cases c7 : ((rd_T50 l0 0).f0) = 2
    ·rw [if_pos c7] at H
     have c7b0 : (((rd_T50 l0 0).f0) == 2) = true := beq_iff_eq.mpr c7
     have c7b1 : (((rd_T50 l0 0).f0) != 2) = false := bne_eq_false_iff_eq.mpr c7
     clear c7
     replace H := Option.bind_eq_some_iff.mp H
     obtain ⟨t273, A80, H⟩ := H
     replace H : (some (([t273] : List Int))) = some r := H
     have A8 := Aside0.mk A80
     clear A80
     obtain ⟨y274, hy274⟩ : ∃ y_ : List Int, y_ = (([t273] : List Int)) := ⟨_, rfl⟩
     replace H : (some y274) = some r := by first | (rw [hy274]; with_reducible exact H) | (have H2_ := (Option.bind_some _ _).symm.trans H; rw [hy274]; with_reducible exact H2_) | (have H2_ := (Option.bind_some _ _).symm.trans H; with_reducible exact H2_) | with_reducible exact H | (rw [hy274]; exact H) | exact H
     have Ny274 := Aside0.mk hy274
     clear hy274
     obtain rfl := Option.some.inj H
     have p268 : 0 ≤ (0 : Int) := (by omega)
     have q268 : 0 < (l0.length : Int) := ofD
     obtain ⟨ad268, e268, hx268_0, hx268_1⟩ := at_T50 HR0.out 0 p268 q268
     cases e268
     have qi268 : (0 < l0.length) = True := eq_true (by omega)
     (try rw [show ((0 : Int)).toNat = 0 from rfl] at hx268_0)
     (try rw [show 0 * 2 = 0 from rfl] at hx268_0)
     (try rw [Addr.add_zero'] at hx268_0)
     (try rw [show ((0 : Int)).toNat = 0 from rfl] at hx268_1)
     (try rw [show 0 * 2 = 0 from rfl] at hx268_1)
     (try rw [Addr.add_zero'] at hx268_1)
     replace p268 := eq_true p268
     replace q268 := eq_true q268
     have p272 : 0 ≤ (0 : Int) := (by omega)
     have q272 : 0 < (l0.length : Int) := ofD
     obtain ⟨ad272, e272, hx272_0, hx272_1⟩ := at_T50 HR0.out 0 p272 q272
     obtain rfl : ad268 = ad272 := (by injection e272)
     have qi272 : (0 < l0.length) = True := eq_true (by omega)
     (try rw [show ((0 : Int)).toNat = 0 from rfl] at hx272_0)
     (try rw [show 0 * 2 = 0 from rfl] at hx272_0)
     (try rw [Addr.add_zero'] at hx272_0)
     (try rw [show ((0 : Int)).toNat = 0 from rfl] at hx272_1)
     (try rw [show 0 * 2 = 0 from rfl] at hx272_1)
     (try rw [Addr.add_zero'] at hx272_1)
     replace p272 := eq_true p272
     replace q272 := eq_true q272
     go_enter Tryd.func29, Tryd.ntmps29
     go_wp2_with (first | ((with_reducible refine gate_callee (f := 39) rfl ?_); refine goesS (some 29) Tryd.func39 #[.int .i64 ((rd_T50 l0 0).f1)] ?_; (with_reducible refine (impl_one.calls ((rd_T50 l0 0).f1) t273 _ A8.out).mono ?_); rintro e w' ⟨rfl, ⟨nd, rfl⟩⟩; refine ⟨_, rfl, ?_⟩) | ((with_reducible refine gate_dst (N := 30) rfl ?_); refine Kd.R_lit (Kd.int .i64) _ 2 ?hg (N := 30) ?hd (xs := ([t273] : List Int)) (inner := [.int .i64 t273]) (ok := fun _ => True) (okp := fun _ => True) ?hr ?hp (fun _ hk => hk) trivial (Below.refl _ _) (Nat.le_refl _) (by simp) ?_; (case hd => rfl); (case hg => rfl); (case hr => first | (go_simp; done) | (go_simp; rfl)); (case hp => exact (Reps.one (show Kd.M (Kd.int .i64) _ _ _ t273 [.int .i64 t273] from rfl) (Reps.none _ _))); intro v275 w9 ho10 hb hg_ hnew_; clear hg_ hnew_; (first | rw [← Ny274.out] at ho10 | (simp only [Int.reduceToNat] at ho10; rw [← Ny274.out] at ho10)); have n0_ := Aside0.mk (Kd.R_lower ho10 (below_size (bW))); have n1_ := Aside0.mk (below_step (bW) hb); clear HB; have HO276 := n0_; have HB := n1_; clear n0_ n1_ hb ho10))
     go_ret
     exact ⟨_, eW, (rP HO276.out), bW⟩
    ·rw [if_neg c7] at H
     have c7b0 : (((rd_T50 l0 0).f0) == 2) = false := beq_eq_false_iff_ne.mpr c7
     have c7b1 : (((rd_T50 l0 0).f0) != 2) = true := bne_iff_ne.mpr c7
     replace H := Option.bind_eq_some_iff.mp H
     obtain ⟨t277, A110, H⟩ := H
     replace H : (if 0 < (t277.length : Int) then ((impl_contents.f k (rd_L6 t277 0)).bind fun t284 => (if ((rd_T50 l0 0).f0) = 3 then (if 1 < (t277.length : Int) then ((impl_contents.f k (rd_L6 t277 1)).bind fun t289 => ((slices_Concat_int64_int64.f k (([t284, t289] : List (List Int)))).bind fun t295 => ((slices_Sort_int64_int64.f t295).bind fun t298 => ((slices_Compact_int64_int64.f t298).bind fun t299 => (some t299))))) else (none)) else (if ((rd_T50 l0 0).f0) = 4 then (impl_contents.l0 k t277 (([] : List Int)) t284 (t284.length : Int) 0) else (impl_contents.l2 k (([0] : List Int)) t284 (t284.length : Int) 0)))) else (none)) = some r := H
     have A11 := Aside0.mk A110
     clear A110
     obtain ⟨y280, hy280⟩ : ∃ y_ : List Int, y_ = (([] : List Int)) := ⟨_, rfl⟩
     replace H : (if 0 < (t277.length : Int) then ((impl_contents.f k (rd_L6 t277 0)).bind fun t284 => (if ((rd_T50 l0 0).f0) = 3 then (if 1 < (t277.length : Int) then ((impl_contents.f k (rd_L6 t277 1)).bind fun t289 => ((slices_Concat_int64_int64.f k (([t284, t289] : List (List Int)))).bind fun t295 => ((slices_Sort_int64_int64.f t295).bind fun t298 => ((slices_Compact_int64_int64.f t298).bind fun t299 => (some t299))))) else (none)) else (if ((rd_T50 l0 0).f0) = 4 then (impl_contents.l0 k t277 y280 t284 (t284.length : Int) 0) else (impl_contents.l2 k (([0] : List Int)) t284 (t284.length : Int) 0)))) else (none)) = some r := by first | (rw [hy280]; with_reducible exact H) | (have H2_ := (Option.bind_some _ _).symm.trans H; rw [hy280]; with_reducible exact H2_) | (have H2_ := (Option.bind_some _ _).symm.trans H; with_reducible exact H2_) | with_reducible exact H | (rw [hy280]; exact H) | exact H
     have Ny280 := Aside0.mk hy280
     clear hy280
     by_cases c12 : 0 < (t277.length : Int)
     ·rw [if_pos c12] at H
      have c12b0 : decide (0 < (t277.length : Int)) = true := decide_eq_true c12
      have c12b1 : decide (0 < t277.length) = true := decide_eq_true (by omega)
      clear c12
      replace H := Option.bind_eq_some_iff.mp H
      obtain ⟨t284, A130, H⟩ := H
      replace H : (if ((rd_T50 l0 0).f0) = 3 then (if 1 < (t277.length : Int) then ((impl_contents.f k (rd_L6 t277 1)).bind fun t289 => ((slices_Concat_int64_int64.f k (([t284, t289] : List (List Int)))).bind fun t295 => ((slices_Sort_int64_int64.f t295).bind fun t298 => ((slices_Compact_int64_int64.f t298).bind fun t299 => (some t299))))) else (none)) else (if ((rd_T50 l0 0).f0) = 4 then (impl_contents.l0 k t277 y280 t284 (t284.length : Int) 0) else (impl_contents.l2 k (([0] : List Int)) t284 (t284.length : Int) 0))) = some r := H
      have A13 := Aside0.mk A130
      clear A130
      by_cases c14 : ((rd_T50 l0 0).f0) = 3
      ·rw [if_pos c14] at H
       have c14b0 : (((rd_T50 l0 0).f0) == 3) = true := beq_iff_eq.mpr c14
       have c14b1 : (((rd_T50 l0 0).f0) != 3) = false := bne_eq_false_iff_eq.mpr c14
       clear c14
       by_cases c15 : 1 < (t277.length : Int)
       ·rw [if_pos c15] at H
        have c15b0 : decide (1 < (t277.length : Int)) = true := decide_eq_true c15
        have c15b1 : decide (1 < t277.length) = true := decide_eq_true (by omega)
        clear c15
        replace H := Option.bind_eq_some_iff.mp H
        obtain ⟨t289, A160, H⟩ := H
        replace H : ((slices_Concat_int64_int64.f k (([t284, t289] : List (List Int)))).bind fun t295 => ((slices_Sort_int64_int64.f t295).bind fun t298 => ((slices_Compact_int64_int64.f t298).bind fun t299 => (some t299)))) = some r := H
        have A16 := Aside0.mk A160
        clear A160
        obtain ⟨y292, hy292⟩ : ∃ y_ : List (List Int), y_ = (([t284, t289] : List (List Int))) := ⟨_, rfl⟩
        replace H : ((slices_Concat_int64_int64.f k y292).bind fun t295 => ((slices_Sort_int64_int64.f t295).bind fun t298 => ((slices_Compact_int64_int64.f t298).bind fun t299 => (some t299)))) = some r := by first | (rw [hy292]; with_reducible exact H) | (have H2_ := (Option.bind_some _ _).symm.trans H; rw [hy292]; with_reducible exact H2_) | (have H2_ := (Option.bind_some _ _).symm.trans H; with_reducible exact H2_) | with_reducible exact H | (rw [hy292]; exact H) | exact H
        have Ny292 := Aside0.mk hy292
        clear hy292
        replace H := Option.bind_eq_some_iff.mp H
        obtain ⟨t295, A170, H⟩ := H
        replace H : ((slices_Sort_int64_int64.f t295).bind fun t298 => ((slices_Compact_int64_int64.f t298).bind fun t299 => (some t299))) = some r := H
        have A17 := Aside0.mk A170
        clear A170
        replace H := Option.bind_eq_some_iff.mp H
        obtain ⟨t298, A180, H⟩ := H
        replace H : ((slices_Compact_int64_int64.f t298).bind fun t299 => (some t299)) = some r := H
        have A18 := Aside0.mk A180
        clear A180
        replace H := Option.bind_eq_some_iff.mp H
        obtain ⟨t299, A190, H⟩ := H
        replace H : (some t299) = some r := H
        have A19 := Aside0.mk A190
        clear A190
        obtain rfl := Option.some.inj H
        have p268 : 0 ≤ (0 : Int) := (by omega)
        have q268 : 0 < (l0.length : Int) := ofD
        obtain ⟨ad268, e268, hx268_0, hx268_1⟩ := at_T50 HR0.out 0 p268 q268
        cases e268
        have qi268 : (0 < l0.length) = True := eq_true (by omega)
        (try rw [show ((0 : Int)).toNat = 0 from rfl] at hx268_0)
        (try rw [show 0 * 2 = 0 from rfl] at hx268_0)
        (try rw [Addr.add_zero'] at hx268_0)
        (try rw [show ((0 : Int)).toNat = 0 from rfl] at hx268_1)
        (try rw [show 0 * 2 = 0 from rfl] at hx268_1)
        (try rw [Addr.add_zero'] at hx268_1)
        replace p268 := eq_true p268
        replace q268 := eq_true q268
        go_enter Tryd.func29, Tryd.ntmps29
        go_wp2_with (first | ((with_reducible refine gate_callee (f := 40) rfl ?_); refine goesS (some 32) Tryd.func40 #[.slice (some ad268) l0.length c0] ?_; (with_reducible refine (impl_parts.calls k (fun k_ => k_ < w.heap.size) _ _ l0 t277 _ ?side1 A11.out).mono ?_); (case side1 => exact Kd.V_mk HC0.out (Kd.F_below (Kd.C_F k50_heap HR0.out) (bW))); rintro e w20 ⟨v278, rfl, ho0, hb⟩; refine ⟨_, rfl, ?_⟩; have n0_ := Aside0.mk (Kd.N_lower (Kd.N_mono (ok' := fun k_ => True) ho0 (fun k_ hk_ => trivial)) (below_size (bW))); have n1_ := Aside0.mk (below_step (bW) hb); clear HB; have HO279 := n0_; have HB := n1_; clear n0_ n1_; (try clear hb); (try clear hb2); (try clear hk); (try clear hi); (try clear ho0)) | ((with_reducible refine gate_dst (N := 33) rfl ?_); refine Kd.R_lit (Kd.int .i64) _ 2 ?hg (N := 33) ?hd (xs := ([] : List Int)) (inner := []) (ok := fun _ => True) (okp := fun _ => True) ?hr ?hp (fun _ hk => hk) trivial (Below.refl _ _) (Nat.le_refl _) (by simp) ?_; (case hd => rfl); (case hg => rfl); (case hr => first | (go_simp; done) | (go_simp; rfl)); (case hp => exact (Reps.none _ _)); intro v281 w21 ho22 hb hg_ hnew_; clear hg_ hnew_; (first | rw [← Ny280.out] at ho22 | (simp only [Int.reduceToNat] at ho22; rw [← Ny280.out] at ho22)); have n0_ := Aside0.mk (Kd.N_elder' (by (with_reducible repeat (first | apply Kd.N_alloc | apply Kd.N_drewN | apply Kd.N_drew)); exact HO279.out) (Kd.R_base ho22) hb); have n1_ := Aside0.mk (Kd.R_lower ho22 (below_size (bW))); have n2_ := Aside0.mk (below_step (bW) hb); clear HO279 HB; have HO279 := n0_; have HO282 := n1_; have HB := n2_; clear n0_ n1_ n2_ hb ho22; obtain ⟨Ao23, co23, eo23⟩ := Kd.N_slice HO279.out; subst eo23; have p283 : 0 ≤ (0 : Int) := (by omega); have q283 : 0 < (t277.length : Int) := ofD; obtain ⟨ad283, A283_0, c283_0, e283, hx283_0, hl283_0, hi283_0⟩ := at_L6 (Kd.N_reads' HO279.out).2.2 0 p283 q283; cases e283; obtain ⟨ce283, hce283, hMe283, hcc283⟩ := Kd.N_get HO279.out [] 0 p283 (by first | exact q283 | exact ofD | (have e_ := (Kd.N_reads' HO279.out).1; omega)); obtain ⟨ua283_0, uc283_0, rfl, ul283_0, ge283_0⟩ := Kd.FK_slice_open hMe283; have hv283_0 := hcc283 0 _ rfl; rw [Nat.add_zero, show ((Kd.slice 50 k50)).sz = 1 from rfl, Nat.mul_one] at hv283_0; replace hv283_0 := Option.some.inj (hv283_0.symm.trans hx283_0); injection hv283_0 with hva_ hvn_ hvc_; rw [hva_] at ge283_0; rw [hvc_] at ul283_0; have HL283_0 := Aside0.mk (show Kd.V k50 50 _ w.heap.size _ _ (rd_L6 t277 0) from Kd.V_mk ul283_0 ge283_0); clear hva_ hvn_ hvc_ ge283_0 ul283_0 hcc283 hce283; have qi283 : (0 < t277.length) = True := eq_true (by omega); (try rw [show ((0 : Int)).toNat = 0 from rfl] at hx283_0); (try rw [Addr.add_zero'] at hx283_0); have HR283_0 := Aside0.mk hi283_0; have HC283_0 := Aside0.mk hl283_0; clear hi283_0 hl283_0; replace p283 := eq_true p283; replace q283 := eq_true q283) | ((with_reducible refine gate_callee (f := 29) rfl ?_); refine goesS (some 37) Tryd.func29 #[.slice A283_0 (rd_L6 t277 0).length c283_0] ?_; (with_reducible refine (ih k (by omega) _ _ (rd_L6 t277 0) t284 _ ?side1 ?side2 A13.out).mono ?_); (case side1 => exact cP (by repeat (first | (with_reducible exact HR283_0.out) | (with_reducible refine Kd.C_alloc ?_ _) | (with_reducible refine Kd.C_drewN ?_ _) | (with_reducible refine Kd.C_drew ?_) | exact HR283_0.out))); (case side2 => exact HC283_0.out); rintro e w24 ⟨v285, rfl, ho0, hb⟩; refine ⟨_, rfl, ?_⟩; have n0_ := Aside0.mk (Kd.N_elder' (by (with_reducible repeat (first | apply Kd.N_alloc | apply Kd.N_drewN | apply Kd.N_drew)); exact HO279.out) (Kd.R_base ho0) hb); have n1_ := Aside0.mk (Kd.R_elder' (rP HO282.out) (Kd.R_base ho0) hb); have n2_ := Aside0.mk (Kd.V_elder' (by (with_reducible repeat (first | apply Kd.V_alloc | apply Kd.V_drewN | apply Kd.V_drew)); exact HL283_0.out) (Kd.R_base ho0) hb); have n3_ := Aside0.mk (Kd.R_lower (Kd.R_new' ho0 (Kd.R_lt (rP HO282.out))) (below_size (bW))); have n4_ := Aside0.mk (Kd.C_below (by repeat (first | (with_reducible exact HR283_0.out) | (with_reducible refine Kd.C_alloc ?_ _) | (with_reducible refine Kd.C_drewN ?_ _) | (with_reducible refine Kd.C_drew ?_) | exact HR283_0.out)) hb); have n5_ := Aside0.mk (below_step (bW) hb); clear HO279 HO282 HL283_0 HR283_0 HB; have HO279 := n0_; have HO282 := n1_; have HL283_0 := n2_; have HO286 := n3_; have HR283_0 := n4_; have HB := n5_; clear n0_ n1_ n2_ n3_ n4_ n5_; (try clear hb); (try clear hb2); (try clear hk); (try clear hi); (try clear ho0); have p287 : 0 ≤ (0 : Int) := (by omega); have q287 : 0 < (l0.length : Int) := ofD; obtain ⟨ad287, e287, hx287_0, hx287_1⟩ := at_T50 HR0.out 0 p287 q287; obtain rfl : ad268 = ad287 := (by injection e287); have qi287 : (0 < l0.length) = True := eq_true (by omega); (try rw [show ((0 : Int)).toNat = 0 from rfl] at hx287_0); (try rw [show 0 * 2 = 0 from rfl] at hx287_0); (try rw [Addr.add_zero'] at hx287_0); (try rw [show ((0 : Int)).toNat = 0 from rfl] at hx287_1); (try rw [show 0 * 2 = 0 from rfl] at hx287_1); (try rw [Addr.add_zero'] at hx287_1); replace hx287_0 := (HB.out.cell (World.block_lt_of_cell? w _ hx287_0)).trans hx287_0; replace hx287_1 := (HB.out.cell (World.block_lt_of_cell? w _ hx287_1)).trans hx287_1; replace p287 := eq_true p287; replace q287 := eq_true q287; have p288 : 0 ≤ (1 : Int) := (by omega); have q288 : 1 < (t277.length : Int) := ofD; obtain ⟨ad288, A288_0, c288_0, e288, hx288_0, hl288_0, hi288_0⟩ := at_L6 (Kd.N_reads' HO279.out).2.2 1 p288 q288; obtain rfl : ad283 = ad288 := (by injection e288); obtain ⟨ce288, hce288, hMe288, hcc288⟩ := Kd.N_get HO279.out [] 1 p288 (by first | exact q288 | exact ofD | (have e_ := (Kd.N_reads' HO279.out).1; omega)); obtain ⟨ua288_0, uc288_0, rfl, ul288_0, ge288_0⟩ := Kd.FK_slice_open hMe288; have hv288_0 := hcc288 0 _ rfl; rw [Nat.add_zero, show ((Kd.slice 50 k50)).sz = 1 from rfl, Nat.mul_one] at hv288_0; replace hv288_0 := Option.some.inj (hv288_0.symm.trans hx288_0); injection hv288_0 with hva_ hvn_ hvc_; rw [hva_] at ge288_0; rw [hvc_] at ul288_0; have HL288_0 := Aside0.mk (show Kd.V k50 50 _ w.heap.size _ _ (rd_L6 t277 1) from Kd.V_mk ul288_0 ge288_0); clear hva_ hvn_ hvc_ ge288_0 ul288_0 hcc288 hce288; (try simp only [show (1 : Int).toNat = 1 from rfl, Nat.reduceMul, Nat.reduceEqDiff, Go.Addr.add, ↓reduceIte] at hx288_0); have qi288 : (1 < t277.length) = True := eq_true (by omega); (try rw [show ((1 : Int)).toNat = 1 from rfl] at hx288_0); have HR288_0 := Aside0.mk hi288_0; have HC288_0 := Aside0.mk hl288_0; clear hi288_0 hl288_0; replace p288 := eq_true p288; replace q288 := eq_true q288) | ((with_reducible refine gate_callee (f := 29) rfl ?_); refine goesS (some 76) Tryd.func29 #[.slice A288_0 (rd_L6 t277 1).length c288_0] ?_; (with_reducible refine (ih k (by omega) _ _ (rd_L6 t277 1) t289 _ ?side1 ?side2 A16.out).mono ?_); (case side1 => exact cP (by repeat (first | (with_reducible exact HR288_0.out) | (with_reducible refine Kd.C_alloc ?_ _) | (with_reducible refine Kd.C_drewN ?_ _) | (with_reducible refine Kd.C_drew ?_) | exact HR288_0.out))); (case side2 => exact HC288_0.out); rintro e w25 ⟨v290, rfl, ho0, hb⟩; refine ⟨_, rfl, ?_⟩; have n0_ := Aside0.mk (Kd.N_elder' (by (with_reducible repeat (first | apply Kd.N_alloc | apply Kd.N_drewN | apply Kd.N_drew)); exact HO279.out) (Kd.R_base ho0) hb); have n1_ := Aside0.mk (Kd.R_elder' (rP HO282.out) (Kd.R_base ho0) hb); have n2_ := Aside0.mk (Kd.V_elder' (by (with_reducible repeat (first | apply Kd.V_alloc | apply Kd.V_drewN | apply Kd.V_drew)); exact HL283_0.out) (Kd.R_base ho0) hb); have n3_ := Aside0.mk (Kd.R_elder' (rP HO286.out) (Kd.R_base ho0) hb); have n4_ := Aside0.mk (Kd.V_elder' (by (with_reducible repeat (first | apply Kd.V_alloc | apply Kd.V_drewN | apply Kd.V_drew)); exact HL288_0.out) (Kd.R_base ho0) hb); have n5_ := Aside0.mk (Kd.R_lower (Kd.R_new' (Kd.R_new' ho0 (Kd.R_lt (rP HO282.out))) (Kd.R_lt (rP HO286.out))) (below_size (bW))); have n6_ := Aside0.mk (Kd.C_below (by repeat (first | (with_reducible exact HR283_0.out) | (with_reducible refine Kd.C_alloc ?_ _) | (with_reducible refine Kd.C_drewN ?_ _) | (with_reducible refine Kd.C_drew ?_) | exact HR283_0.out)) hb); have n7_ := Aside0.mk (Kd.C_below (by repeat (first | (with_reducible exact HR288_0.out) | (with_reducible refine Kd.C_alloc ?_ _) | (with_reducible refine Kd.C_drewN ?_ _) | (with_reducible refine Kd.C_drew ?_) | exact HR288_0.out)) hb); have n8_ := Aside0.mk (below_step (bW) hb); clear HO279 HO282 HL283_0 HO286 HL288_0 HR283_0 HR288_0 HB; have HO279 := n0_; have HO282 := n1_; have HL283_0 := n2_; have HO286 := n3_; have HL288_0 := n4_; have HO291 := n5_; have HR283_0 := n6_; have HR288_0 := n7_; have HB := n8_; clear n0_ n1_ n2_ n3_ n4_ n5_ n6_ n7_ n8_; (try clear hb); (try clear hb2); (try clear hk); (try clear hi); (try clear ho0); obtain ⟨Ao26, co26, eo26⟩ := Kd.R_slice HO286.out; subst eo26; obtain ⟨Ao27, co27, eo27⟩ := Kd.R_slice HO291.out; subst eo27) | ((with_reducible refine gate_dst (N := 77) rfl ?_); refine Kd.N_lit (Kd.slice 2 (Kd.int .i64)) _ 22 ?hg (N' := 77) ?hd (xs := ([t284, t289] : List (List Int))) (inner := [.slice Ao26 t284.length co26, .slice Ao27 t289.length co27]) (ok := (fun k_ => some k_ ≠ (.slice (some ad283) t277.length co23 : Value).ownBlock ∧ some k_ ≠ (v281 : Value).ownBlock)) (okp := (fun k_ => some k_ ≠ (.slice (some ad283) t277.length co23 : Value).ownBlock ∧ some k_ ≠ (v281 : Value).ownBlock)) ?hr ?hp (fun _ hk => hk) ((show ∀ k_, w25.heap.size ≤ k_ → (fun k_ => some k_ ≠ (.slice (some ad283) t277.length co23 : Value).ownBlock ∧ some k_ ≠ (v281 : Value).ownBlock) k_ from fun k_ hk => ⟨Kd.fresh' (Kd.N_lt (by (with_reducible repeat (first | apply Kd.N_alloc | apply Kd.N_drewN | apply Kd.N_drew)); exact HO279.out)) k_ hk, Kd.fresh' (Kd.R_lt (rP HO282.out)) k_ hk⟩) _ (Nat.le_refl _)) (Below.refl _ _) (Nat.le_refl _) (by simp) ?_; (case hd => rfl); (case hg => rfl); (case hr => first | (go_simp; done) | (go_simp; rfl)); (case hp => exact (Reps.one (show Kd.FK (Kd.slice 2 (Kd.int .i64)) _ _ t284 [.slice Ao26 t284.length co26] from (Kd.FK_slice_mk (Kd.R_reads' (Kd.R_mono (ok' := (fun k_ => some k_ ≠ (.slice (some ad283) t277.length co23 : Value).ownBlock ∧ some k_ ≠ (v281 : Value).ownBlock)) (Kd.R_apart' (HO286.out) (Kd.N_typed HO279.out) (by decide)) (fun k_ hk => ⟨hk.2, hk.1.1.2⟩))).2.1 (Kd.R_F (Kd.R_mono (ok' := (fun k_ => some k_ ≠ (.slice (some ad283) t277.length co23 : Value).ownBlock ∧ some k_ ≠ (v281 : Value).ownBlock)) (Kd.R_apart' (HO286.out) (Kd.N_typed HO279.out) (by decide)) (fun k_ hk => ⟨hk.2, hk.1.1.2⟩))))) (Reps.one (show Kd.FK (Kd.slice 2 (Kd.int .i64)) _ _ t289 [.slice Ao27 t289.length co27] from (Kd.FK_slice_mk (Kd.R_reads' (Kd.R_mono (ok' := (fun k_ => some k_ ≠ (.slice (some ad283) t277.length co23 : Value).ownBlock ∧ some k_ ≠ (v281 : Value).ownBlock)) (Kd.R_apart' (HO291.out) (Kd.N_typed HO279.out) (by decide)) (fun k_ hk => ⟨hk.2, hk.1.1.2⟩))).2.1 (Kd.R_F (Kd.R_mono (ok' := (fun k_ => some k_ ≠ (.slice (some ad283) t277.length co23 : Value).ownBlock ∧ some k_ ≠ (v281 : Value).ownBlock)) (Kd.R_apart' (HO291.out) (Kd.N_typed HO279.out) (by decide)) (fun k_ hk => ⟨hk.2, hk.1.1.2⟩))))) (Reps.none _ _)))); intro v293 w28 ho29 hb hg_ hnew_; clear hg_ hnew_; (first | rw [← Ny292.out] at ho29 | (simp only [Int.reduceToNat] at ho29; rw [← Ny292.out] at ho29)); have n0_ := Aside0.mk (Kd.N_elder' (by (with_reducible repeat (first | apply Kd.N_alloc | apply Kd.N_drewN | apply Kd.N_drew)); exact HO279.out) (Kd.N_base ho29) hb); have n1_ := Aside0.mk (Kd.R_below (rP HO282.out) hb); have n2_ := Aside0.mk (Kd.V_elder' (by (with_reducible repeat (first | apply Kd.V_alloc | apply Kd.V_drewN | apply Kd.V_drew)); exact HL283_0.out) (Kd.N_base ho29) hb); have n3_ := Aside0.mk (Kd.V_elder' (by (with_reducible repeat (first | apply Kd.V_alloc | apply Kd.V_drewN | apply Kd.V_drew)); exact HL288_0.out) (Kd.N_base ho29) hb); have n4_ := Aside0.mk (Kd.N_lower ho29 (below_size (bW))); have n5_ := Aside0.mk (Kd.C_below (by repeat (first | (with_reducible exact HR283_0.out) | (with_reducible refine Kd.C_alloc ?_ _) | (with_reducible refine Kd.C_drewN ?_ _) | (with_reducible refine Kd.C_drew ?_) | exact HR283_0.out)) hb); have n6_ := Aside0.mk (Kd.C_below (by repeat (first | (with_reducible exact HR288_0.out) | (with_reducible refine Kd.C_alloc ?_ _) | (with_reducible refine Kd.C_drewN ?_ _) | (with_reducible refine Kd.C_drew ?_) | exact HR288_0.out)) hb); have n7_ := Aside0.mk (below_step (bW) hb); clear HO279 HO282 HL283_0 HL288_0 HR283_0 HR288_0 HB HO286 HO291; have HO279 := n0_; have HO282 := n1_; have HL283_0 := n2_; have HL288_0 := n3_; have HO294 := n4_; have HR283_0 := n5_; have HR288_0 := n6_; have HB := n7_; clear n0_ n1_ n2_ n3_ n4_ n5_ n6_ n7_ hb ho29; obtain ⟨Ao30, co30, eo30⟩ := Kd.N_slice HO294.out; subst eo30) | ((with_reducible refine gate_callee (f := 41) rfl ?_); refine goesS (some 78) Tryd.func41 #[.slice Ao30 y292.length co30] ?_; (with_reducible refine (slices_Concat_int64_int64.calls k _ _ y292 t295 _ ?side1 ?side2 A17.out).mono ?_); (case side1 => exact cP ((Kd.N_reads' HO294.out).2.2)); (case side2 => exact (Kd.N_reads' HO294.out).2.1); rintro e w31 ⟨v296, rfl, ho0, hb⟩; refine ⟨_, rfl, ?_⟩; have n0_ := Aside0.mk (Kd.N_elder' (by (with_reducible repeat (first | apply Kd.N_alloc | apply Kd.N_drewN | apply Kd.N_drew)); exact HO279.out) (Kd.R_base ho0) hb); have n1_ := Aside0.mk (Kd.R_elder' (rP HO282.out) (Kd.R_base ho0) hb); have n2_ := Aside0.mk (Kd.V_elder' (by (with_reducible repeat (first | apply Kd.V_alloc | apply Kd.V_drewN | apply Kd.V_drew)); exact HL283_0.out) (Kd.R_base ho0) hb); have n3_ := Aside0.mk (Kd.V_elder' (by (with_reducible repeat (first | apply Kd.V_alloc | apply Kd.V_drewN | apply Kd.V_drew)); exact HL288_0.out) (Kd.R_base ho0) hb); have n4_ := Aside0.mk (Kd.N_elder' (by (with_reducible repeat (first | apply Kd.N_alloc | apply Kd.N_drewN | apply Kd.N_drew)); exact HO294.out) (Kd.R_base ho0) hb); have n5_ := Aside0.mk (Kd.R_lower (Kd.R_new' ho0 (Kd.R_lt (rP HO282.out))) (below_size (bW))); have n6_ := Aside0.mk (Kd.C_below (by repeat (first | (with_reducible exact HR283_0.out) | (with_reducible refine Kd.C_alloc ?_ _) | (with_reducible refine Kd.C_drewN ?_ _) | (with_reducible refine Kd.C_drew ?_) | exact HR283_0.out)) hb); have n7_ := Aside0.mk (Kd.C_below (by repeat (first | (with_reducible exact HR288_0.out) | (with_reducible refine Kd.C_alloc ?_ _) | (with_reducible refine Kd.C_drewN ?_ _) | (with_reducible refine Kd.C_drew ?_) | exact HR288_0.out)) hb); have n8_ := Aside0.mk (below_step (bW) hb); clear HO279 HO282 HL283_0 HL288_0 HO294 HR283_0 HR288_0 HB; have HO279 := n0_; have HO282 := n1_; have HL283_0 := n2_; have HL288_0 := n3_; have HO294 := n4_; have HO297 := n5_; have HR283_0 := n6_; have HR288_0 := n7_; have HB := n8_; clear n0_ n1_ n2_ n3_ n4_ n5_ n6_ n7_ n8_; (try clear hb); (try clear hb2); (try clear hk); (try clear hi); (try clear ho0); obtain ⟨Ao32, co32, eo32⟩ := Kd.R_slice HO297.out; subst eo32) | ((with_reducible refine gate_callee (f := 44) rfl ?_); refine goesS (some 105) Tryd.func44 #[.slice Ao32 t295.length co32] ?_; (with_reducible refine (slices_Sort_int64_int64.calls (fun k_ => some k_ = (.slice Ao32 t295.length co32 : Value).ownBlock) (.slice Ao32 t295.length co32) t295 t298 w _ ?side1 ?side2 A18.out).mono ?_); (case side1 => repeat (first | (with_reducible first | exact HB.out | apply below_alloc | apply pw_below_drewN | apply below_drew1) | exact HB.out)); (case side2 => exact Kd.R_tight rfl HO297.out); rintro e w33 ⟨rfl, hy0, hb, hkp⟩; refine ⟨_, rfl, ?_⟩; have n0_ := Aside0.mk (Kd.N_mono (ok' := fun k_ => some k_ ≠ (v281 : Value).ownBlock ∧ some k_ ≠ (.slice Ao30 y292.length co30 : Value).ownBlock ∧ some k_ ≠ (.slice Ao32 t295.length co32 : Value).ownBlock) (Kd.N_keptB (HO279.out) hkp (fun k_ hk_ hs_ => (hk_.2) hs_)) (fun k_ hk_ => ⟨hk_.1.1.1.1.1.2, hk_.1.1.2, hk_.1.2⟩)); have n1_ := Aside0.mk (Kd.R_mono (ok' := fun k_ => some k_ ≠ (.slice Ao32 t295.length co32 : Value).ownBlock) (Kd.R_keptB (HO282.out) hkp (fun k_ hk_ hs_ => (hk_.2) hs_)) (fun k_ hk_ => hk_.1.2)); have n2_ := Aside0.mk (Kd.N_mono (ok' := fun k_ => some k_ ≠ (.slice (some ad283) t277.length co23 : Value).ownBlock ∧ some k_ ≠ (v281 : Value).ownBlock ∧ some k_ ≠ (.slice Ao32 t295.length co32 : Value).ownBlock) (Kd.N_keptB (HO294.out) hkp (fun k_ hk_ hs_ => (hk_.2) hs_)) (fun k_ hk_ => ⟨hk_.1.1.1, hk_.1.1.2, hk_.1.2⟩)); have n3_ := Aside0.mk (Kd.R_reok rfl hy0 (fun k_ e_ => HO297.out.1 k_ e_)); have n4_ := Aside0.mk (hb); clear HO279 HO282 HO294 HO297 HB HL283_0 HL288_0; have HO279 := n0_; have HO282 := n1_; have HO294 := n2_; have HO297 := n3_; have HB := n4_; clear n0_ n1_ n2_ n3_ n4_; (try clear hb); (try clear hkp); (try clear hy0)) | ((with_reducible refine gate_callee (f := 45) rfl ?_); refine goesS (some 107) Tryd.func45 #[.slice Ao32 t295.length co32] ?_; (with_reducible refine (slices_Compact_int64_int64.calls (fun k_ => some k_ = (.slice Ao32 t295.length co32 : Value).ownBlock) (.slice Ao32 t295.length co32) t298 t299 w _ ?side1 ?side2 A19.out).mono ?_); (case side1 => repeat (first | (with_reducible first | exact HB.out | apply below_alloc | apply pw_below_drewN | apply below_drew1) | exact HB.out)); (case side2 => exact Kd.R_tight rfl HO297.out); rintro e w34 ⟨v300, rfl, ho0, hb, hkp⟩; refine ⟨_, rfl, ?_⟩; have n0_ := Aside0.mk (Kd.N_mono (ok' := fun k_ => some k_ ≠ (v281 : Value).ownBlock ∧ some k_ ≠ (.slice Ao30 y292.length co30 : Value).ownBlock ∧ some k_ ≠ (v300 : Value).ownBlock) (Kd.N_keptB (HO279.out) hkp (fun k_ hk_ hs_ => (hk_.2.2) hs_)) (fun k_ hk_ => ⟨hk_.1.1, hk_.1.2.1, fun e_ => Or.elim (ho0.1 k_ e_.symm) (fun hs_ => hk_.2.1 hs_) (fun hn_ => Nat.not_le.2 hk_.2.2 hn_)⟩)); have n1_ := Aside0.mk (Kd.R_mono (ok' := fun k_ => some k_ ≠ (v300 : Value).ownBlock) (Kd.R_keptB (HO282.out) hkp (fun k_ hk_ hs_ => (hk_) hs_)) (fun k_ hk_ => fun e_ => Or.elim (ho0.1 k_ e_.symm) (fun hs_ => hk_.2.1 hs_) (fun hn_ => Nat.not_le.2 hk_.2.2 hn_))); have n2_ := Aside0.mk (Kd.N_mono (ok' := fun k_ => some k_ ≠ (.slice (some ad283) t277.length co23 : Value).ownBlock ∧ some k_ ≠ (v281 : Value).ownBlock ∧ some k_ ≠ (v300 : Value).ownBlock) (Kd.N_keptB (HO294.out) hkp (fun k_ hk_ hs_ => (hk_.2.2) hs_)) (fun k_ hk_ => ⟨hk_.1.1, hk_.1.2.1, fun e_ => Or.elim (ho0.1 k_ e_.symm) (fun hs_ => hk_.2.1 hs_) (fun hn_ => Nat.not_le.2 hk_.2.2 hn_)⟩)); have n3_ := Aside0.mk (Kd.R_mono (ok' := fun k_ => some k_ ≠ (v281 : Value).ownBlock) ho0 (fun k_ hk_ => Or.elim hk_ (fun hs_ => fun e_ => (((HO282.out).1 k_ e_.symm)) hs_) (fun hn_ => (Kd.fresh' (Kd.R_lt (rP HO282.out)) k_ hn_)))); have n4_ := Aside0.mk (hb); clear HO279 HO282 HO294 HB HO297; have HO279 := n0_; have HO282 := n1_; have HO294 := n2_; have HO301 := n3_; have HB := n4_; clear n0_ n1_ n2_ n3_ n4_; (try clear hb); (try clear hkp); (try clear ho0)))
        go_ret
        exact ⟨_, eW, by (with_reducible repeat (first | apply Kd.R_alloc | apply Kd.R_drewN | apply Kd.R_drew)); exact Kd.R_mono HO301.out (fun _ hk => trivial), bW⟩
       ·rw [if_neg c15] at H
        exact absurd H (by simp)
      ·rw [if_neg c14] at H
       have c14b0 : (((rd_T50 l0 0).f0) == 3) = false := beq_eq_false_iff_ne.mpr c14
       have c14b1 : (((rd_T50 l0 0).f0) != 3) = true := bne_iff_ne.mpr c14
       by_cases c35 : ((rd_T50 l0 0).f0) = 4
       ·rw [if_pos c35] at H
        have c35b0 : (((rd_T50 l0 0).f0) == 4) = true := beq_iff_eq.mpr c35
        have c35b1 : (((rd_T50 l0 0).f0) != 4) = false := bne_eq_false_iff_eq.mpr c35
        clear c35
        have H' := Aside0.mk H
        clear H
        have p268 : 0 ≤ (0 : Int) := (by omega)
        have q268 : 0 < (l0.length : Int) := ofD
        obtain ⟨ad268, e268, hx268_0, hx268_1⟩ := at_T50 HR0.out 0 p268 q268
        cases e268
        have qi268 : (0 < l0.length) = True := eq_true (by omega)
        (try rw [show ((0 : Int)).toNat = 0 from rfl] at hx268_0)
        (try rw [show 0 * 2 = 0 from rfl] at hx268_0)
        (try rw [Addr.add_zero'] at hx268_0)
        (try rw [show ((0 : Int)).toNat = 0 from rfl] at hx268_1)
        (try rw [show 0 * 2 = 0 from rfl] at hx268_1)
        (try rw [Addr.add_zero'] at hx268_1)
        replace p268 := eq_true p268
        replace q268 := eq_true q268
        go_enter Tryd.func29, Tryd.ntmps29
        go_wp2_with (first | ((with_reducible refine gate_callee (f := 40) rfl ?_); refine goesS (some 32) Tryd.func40 #[.slice (some ad268) l0.length c0] ?_; (with_reducible refine (impl_parts.calls k (fun k_ => k_ < w.heap.size) _ _ l0 t277 _ ?side1 A11.out).mono ?_); (case side1 => exact Kd.V_mk HC0.out (Kd.F_below (Kd.C_F k50_heap HR0.out) (bW))); rintro e w36 ⟨v278, rfl, ho0, hb⟩; refine ⟨_, rfl, ?_⟩; have n0_ := Aside0.mk (Kd.N_lower (Kd.N_mono (ok' := fun k_ => True) ho0 (fun k_ hk_ => trivial)) (below_size (bW))); have n1_ := Aside0.mk (below_step (bW) hb); clear HB; have HO279 := n0_; have HB := n1_; clear n0_ n1_; (try clear hb); (try clear hb2); (try clear hk); (try clear hi); (try clear ho0)) | ((with_reducible refine gate_dst (N := 33) rfl ?_); refine Kd.R_lit (Kd.int .i64) _ 2 ?hg (N := 33) ?hd (xs := ([] : List Int)) (inner := []) (ok := fun _ => True) (okp := fun _ => True) ?hr ?hp (fun _ hk => hk) trivial (Below.refl _ _) (Nat.le_refl _) (by simp) ?_; (case hd => rfl); (case hg => rfl); (case hr => first | (go_simp; done) | (go_simp; rfl)); (case hp => exact (Reps.none _ _)); intro v281 w37 ho38 hb hg_ hnew_; clear hg_ hnew_; (first | rw [← Ny280.out] at ho38 | (simp only [Int.reduceToNat] at ho38; rw [← Ny280.out] at ho38)); have n0_ := Aside0.mk (Kd.N_elder' (by (with_reducible repeat (first | apply Kd.N_alloc | apply Kd.N_drewN | apply Kd.N_drew)); exact HO279.out) (Kd.R_base ho38) hb); have n1_ := Aside0.mk (Kd.R_lower ho38 (below_size (bW))); have n2_ := Aside0.mk (below_step (bW) hb); clear HO279 HB; have HO279 := n0_; have HO282 := n1_; have HB := n2_; clear n0_ n1_ n2_ hb ho38; obtain ⟨Ao39, co39, eo39⟩ := Kd.N_slice HO279.out; subst eo39; have p283 : 0 ≤ (0 : Int) := (by omega); have q283 : 0 < (t277.length : Int) := ofD; obtain ⟨ad283, A283_0, c283_0, e283, hx283_0, hl283_0, hi283_0⟩ := at_L6 (Kd.N_reads' HO279.out).2.2 0 p283 q283; cases e283; obtain ⟨ce283, hce283, hMe283, hcc283⟩ := Kd.N_get HO279.out [] 0 p283 (by first | exact q283 | exact ofD | (have e_ := (Kd.N_reads' HO279.out).1; omega)); obtain ⟨ua283_0, uc283_0, rfl, ul283_0, ge283_0⟩ := Kd.FK_slice_open hMe283; have hv283_0 := hcc283 0 _ rfl; rw [Nat.add_zero, show ((Kd.slice 50 k50)).sz = 1 from rfl, Nat.mul_one] at hv283_0; replace hv283_0 := Option.some.inj (hv283_0.symm.trans hx283_0); injection hv283_0 with hva_ hvn_ hvc_; rw [hva_] at ge283_0; rw [hvc_] at ul283_0; have HL283_0 := Aside0.mk (show Kd.V k50 50 _ w.heap.size _ _ (rd_L6 t277 0) from Kd.V_mk ul283_0 ge283_0); clear hva_ hvn_ hvc_ ge283_0 ul283_0 hcc283 hce283; have qi283 : (0 < t277.length) = True := eq_true (by omega); (try rw [show ((0 : Int)).toNat = 0 from rfl] at hx283_0); (try rw [Addr.add_zero'] at hx283_0); have HR283_0 := Aside0.mk hi283_0; have HC283_0 := Aside0.mk hl283_0; clear hi283_0 hl283_0; replace p283 := eq_true p283; replace q283 := eq_true q283) | ((with_reducible refine gate_callee (f := 29) rfl ?_); refine goesS (some 37) Tryd.func29 #[.slice A283_0 (rd_L6 t277 0).length c283_0] ?_; (with_reducible refine (ih k (by omega) _ _ (rd_L6 t277 0) t284 _ ?side1 ?side2 A13.out).mono ?_); (case side1 => exact cP (by repeat (first | (with_reducible exact HR283_0.out) | (with_reducible refine Kd.C_alloc ?_ _) | (with_reducible refine Kd.C_drewN ?_ _) | (with_reducible refine Kd.C_drew ?_) | exact HR283_0.out))); (case side2 => exact HC283_0.out); rintro e w40 ⟨v285, rfl, ho0, hb⟩; refine ⟨_, rfl, ?_⟩; have n0_ := Aside0.mk (Kd.N_elder' (by (with_reducible repeat (first | apply Kd.N_alloc | apply Kd.N_drewN | apply Kd.N_drew)); exact HO279.out) (Kd.R_base ho0) hb); have n1_ := Aside0.mk (Kd.R_elder' (rP HO282.out) (Kd.R_base ho0) hb); have n2_ := Aside0.mk (Kd.V_elder' (by (with_reducible repeat (first | apply Kd.V_alloc | apply Kd.V_drewN | apply Kd.V_drew)); exact HL283_0.out) (Kd.R_base ho0) hb); have n3_ := Aside0.mk (Kd.R_lower (Kd.R_new' ho0 (Kd.R_lt (rP HO282.out))) (below_size (bW))); have n4_ := Aside0.mk (Kd.C_below (by repeat (first | (with_reducible exact HR283_0.out) | (with_reducible refine Kd.C_alloc ?_ _) | (with_reducible refine Kd.C_drewN ?_ _) | (with_reducible refine Kd.C_drew ?_) | exact HR283_0.out)) hb); have n5_ := Aside0.mk (below_step (bW) hb); clear HO279 HO282 HL283_0 HR283_0 HB; have HO279 := n0_; have HO282 := n1_; have HL283_0 := n2_; have HO286 := n3_; have HR283_0 := n4_; have HB := n5_; clear n0_ n1_ n2_ n3_ n4_ n5_; (try clear hb); (try clear hb2); (try clear hk); (try clear hi); (try clear ho0); have p287 : 0 ≤ (0 : Int) := (by omega); have q287 : 0 < (l0.length : Int) := ofD; obtain ⟨ad287, e287, hx287_0, hx287_1⟩ := at_T50 HR0.out 0 p287 q287; obtain rfl : ad268 = ad287 := (by injection e287); have qi287 : (0 < l0.length) = True := eq_true (by omega); (try rw [show ((0 : Int)).toNat = 0 from rfl] at hx287_0); (try rw [show 0 * 2 = 0 from rfl] at hx287_0); (try rw [Addr.add_zero'] at hx287_0); (try rw [show ((0 : Int)).toNat = 0 from rfl] at hx287_1); (try rw [show 0 * 2 = 0 from rfl] at hx287_1); (try rw [Addr.add_zero'] at hx287_1); replace hx287_0 := (HB.out.cell (World.block_lt_of_cell? w _ hx287_0)).trans hx287_0; replace hx287_1 := (HB.out.cell (World.block_lt_of_cell? w _ hx287_1)).trans hx287_1; replace p287 := eq_true p287; replace q287 := eq_true q287; obtain ⟨Ao41, co41, eo41⟩ := Kd.R_slice HO286.out; subst eo41))
        go_loopg [4, 83] k (fun kq v4 v83 w' => ∃ (x4_1 : List Int) (x83_1 : Int), v83 = .int .i64 x83_1 ∧ Aside0 (impl_contents.l0 kq t277 x4_1 t284 (t284.length : Int) x83_1 = some r) ∧ Aside0 (kq ≤ k) ∧ Aside0 (Kd.N (Kd.slice 50 k50) 32 w' w.heap.size (fun k_ => some k_ ≠ (v4 : Value).ownBlock ∧ some k_ ≠ ((.slice Ao41 t284.length co41) : Value).ownBlock) (.slice (some ad283) t277.length co39) t277) ∧ Aside0 (Kd.R (Kd.int .i64) 2 w' w.heap.size (fun k_ => some k_ ≠ ((.slice Ao41 t284.length co41) : Value).ownBlock) v4 x4_1) ∧ Aside0 (Kd.R (Kd.int .i64) 2 w' w.heap.size (fun k_ => some k_ ≠ (v4 : Value).ownBlock) (.slice Ao41 t284.length co41) t284) ∧ Aside0 (Below w.heap.size w w'))
        case atStart => exact ⟨(y280), (0), (eW), H', ⟨Nat.le_refl _⟩, ⟨by (with_reducible repeat (first | apply Kd.N_alloc | apply Kd.N_drewN | apply Kd.N_drew)); exact Kd.N_mono HO279.out (fun _ hk => ⟨hk.1.2, hk.2⟩)⟩, ⟨by (with_reducible repeat (first | apply Kd.R_alloc | apply Kd.R_drewN | apply Kd.R_drew)); exact Kd.R_mono HO282.out (fun _ hk => hk.2)⟩, ⟨by (with_reducible repeat (first | apply Kd.R_alloc | apply Kd.R_drewN | apply Kd.R_drew)); exact Kd.R_mono HO286.out (fun _ hk => hk.2)⟩, ⟨bW⟩⟩
        case round =>
         clear H'
         try clear c1
         try clear c2
         try clear c2b0
         try clear c2b1
         try clear p2
         try clear q2
         try clear hx2
         try clear qi2
         try clear c3
         try clear c3b0
         try clear c3b1
         try clear c4
         try clear c4b0
         try clear c4b1
         try clear c7
         try clear c7b0
         try clear c7b1
         try clear c12
         try clear c12b0
         try clear c12b1
         try clear c14
         try clear c14b0
         try clear c14b1
         try clear c15
         try clear c15b0
         try clear c15b1
         try clear p26
         try clear q26
         try clear hx26
         try clear qi26
         try clear p27
         try clear q27
         try clear hx27
         try clear qi27
         try clear c28
         try clear p28
         try clear q28
         try clear hx28
         try clear qi28
         try clear c29
         try clear c35
         try clear c35b0
         try clear c35b1
         try clear c39
         try clear c40
         try clear c41
         try clear hx268_0
         try clear hx268_1
         try clear hx272_0
         try clear hx272_1
         try clear hx283_0
         try clear hx287_0
         try clear hx287_1
         try clear hx288_0
         try clear p268
         try clear p272
         try clear p283
         try clear p287
         try clear p288
         try clear q268
         try clear q272
         try clear q283
         try clear q287
         try clear q288
         obtain ⟨x4_1, x83_1, rfl, HA, HK1, HO_3, HO_4, HO_81, HB⟩ := hrel
         cases gk with
         | zero => exact absurd HA.out (by simp [impl_contents.l0])
         | succ k1 =>
          have H := HA.out
          clear HA
          simp only [impl_contents.l0] at H
          by_cases c42 : x83_1 < (t284.length : Int)
          ·rw [if_pos c42] at H
           have c42b0 : decide (x83_1 < (t284.length : Int)) = true := decide_eq_true c42
           clear c42
           by_cases c43 : 0 ≤ x83_1
           ·rw [if_pos c43] at H
            have c43b0 : decide (0 ≤ x83_1) = true := decide_eq_true c43
            clear c43
            by_cases c44 : x83_1 < (t284.length : Int)
            ·rw [if_pos c44] at H
             have c44b0 : decide (x83_1 < (t284.length : Int)) = true := decide_eq_true c44
             clear c44
             by_cases c45 : 1 < (t277.length : Int)
             ·rw [if_pos c45] at H
              have c45b0 : decide (1 < (t277.length : Int)) = true := decide_eq_true c45
              have c45b1 : decide (1 < t277.length) = true := decide_eq_true (by omega)
              clear c45
              replace H := Option.bind_eq_some_iff.mp H
              obtain ⟨t308, A460, H⟩ := H
              replace H : (impl_contents.l1 k1 t277 x4_1 (rd t284 x83_1) t284 (t284.length : Int) x83_1 t308 (t308.length : Int) 0) = some r := H
              have A46 := Aside0.mk A460
              clear A460
              have H' := Aside0.mk H
              clear H
              have p306 : 0 ≤ (x83_1 : Int) := ofD
              have q306 : x83_1 < (t284.length : Int) := ofD
              obtain ⟨ad306, e306, hx306_0⟩ := Kd.at_int (Kd.R_reads' HO_81.out).2.2 x83_1 p306 q306
              cases e306
              replace p306 := eq_true p306
              replace q306 := eq_true q306
              have p307 : 0 ≤ (1 : Int) := (by omega)
              have q307 : 1 < (t277.length : Int) := ofD
              obtain ⟨ad307, A307_0, c307_0, e307, hx307_0, hl307_0, hi307_0⟩ := at_L6 (Kd.N_reads' HO_3.out).2.2 1 p307 q307
              obtain rfl : ad283 = ad307 := (by injection e307)
              obtain ⟨ce307, hce307, hMe307, hcc307⟩ := Kd.N_get HO_3.out [] 1 p307 (by first | exact q307 | exact ofD | (have e_ := (Kd.N_reads' HO_3.out).1; omega))
              obtain ⟨ua307_0, uc307_0, rfl, ul307_0, ge307_0⟩ := Kd.FK_slice_open hMe307
              have hv307_0 := hcc307 0 _ rfl
              rw [Nat.add_zero, show ((Kd.slice 50 k50)).sz = 1 from rfl, Nat.mul_one] at hv307_0
              replace hv307_0 := Option.some.inj (hv307_0.symm.trans hx307_0)
              injection hv307_0 with hva_ hvn_ hvc_
              rw [hva_] at ge307_0
              rw [hvc_] at ul307_0
              have HL307_0 := Aside0.mk (show Kd.V k50 50 _ w.heap.size _ _ (rd_L6 t277 1) from Kd.V_mk ul307_0 ge307_0)
              clear hva_ hvn_ hvc_ ge307_0 ul307_0 hcc307 hce307
              (try simp only [show (1 : Int).toNat = 1 from rfl, Nat.reduceMul, Nat.reduceEqDiff, Go.Addr.add, ↓reduceIte] at hx307_0)
              have qi307 : (1 < t277.length) = True := eq_true (by omega)
              (try rw [show ((1 : Int)).toNat = 1 from rfl] at hx307_0)
              have HR307_0 := Aside0.mk hi307_0
              have HC307_0 := Aside0.mk hl307_0
              clear hi307_0 hl307_0
              replace p307 := eq_true p307
              replace q307 := eq_true q307
              go_wp2_with (first | ((with_reducible refine gate_callee (f := 29) rfl ?_); refine goesS (some 90) Tryd.func29 #[.slice A307_0 (rd_L6 t277 1).length c307_0] ?_; (with_reducible refine (ih k1 (by have := HK1.out; omega) _ _ (rd_L6 t277 1) t308 _ ?side1 ?side2 A46.out).mono ?_); (case side1 => exact cP (by repeat (first | (with_reducible exact HR307_0.out) | (with_reducible refine Kd.C_alloc ?_ _) | (with_reducible refine Kd.C_drewN ?_ _) | (with_reducible refine Kd.C_drew ?_) | exact HR307_0.out))); (case side2 => exact HC307_0.out); rintro e w47 ⟨v309, rfl, ho0, hb⟩; refine ⟨_, rfl, ?_⟩; have n0_ := Aside0.mk (Kd.N_elder' (by (with_reducible repeat (first | apply Kd.N_alloc | apply Kd.N_drewN | apply Kd.N_drew)); exact HO_3.out) (Kd.R_base ho0) hb); have n1_ := Aside0.mk (Kd.R_elder' (rP HO_4.out) (Kd.R_base ho0) hb); have n2_ := Aside0.mk (Kd.R_elder' (rP HO_81.out) (Kd.R_base ho0) hb); have n3_ := Aside0.mk (Kd.V_elder' (by (with_reducible repeat (first | apply Kd.V_alloc | apply Kd.V_drewN | apply Kd.V_drew)); exact HL307_0.out) (Kd.R_base ho0) hb); have n4_ := Aside0.mk (Kd.R_lower (Kd.R_new' (Kd.R_new' ho0 (Kd.R_lt (rP HO_4.out))) (Kd.R_lt (rP HO_81.out))) (below_size (bW))); have n5_ := Aside0.mk (Kd.C_below (by repeat (first | (with_reducible exact HR307_0.out) | (with_reducible refine Kd.C_alloc ?_ _) | (with_reducible refine Kd.C_drewN ?_ _) | (with_reducible refine Kd.C_drew ?_) | exact HR307_0.out)) hb); have n6_ := Aside0.mk (below_step (bW) hb); clear HO_3 HO_4 HO_81 HL307_0 HR307_0 HB; have HO_3 := n0_; have HO_4 := n1_; have HO_81 := n2_; have HL307_0 := n3_; have HO310 := n4_; have HR307_0 := n5_; have HB := n6_; clear n0_ n1_ n2_ n3_ n4_ n5_ n6_; (try clear hb); (try clear hb2); (try clear hk); (try clear hi); (try clear ho0); obtain ⟨Ao48, co48, eo48⟩ := Kd.R_slice HO310.out; subst eo48))
              go_loopg [4, 92] k1 (fun kq v4 v92 w' => ∃ (x4_2 : List Int) (x92_2 : Int), v92 = .int .i64 x92_2 ∧ Aside0 (impl_contents.l1 kq t277 x4_2 (rd t284 x83_1) t284 (t284.length : Int) x83_1 t308 (t308.length : Int) x92_2 = some r) ∧ Aside0 (kq ≤ k1) ∧ Aside0 (Kd.N (Kd.slice 50 k50) 32 w' w.heap.size (fun k_ => some k_ ≠ (v4 : Value).ownBlock ∧ some k_ ≠ ((.slice (some ad306) t284.length co41) : Value).ownBlock ∧ some k_ ≠ ((.slice Ao48 t308.length co48) : Value).ownBlock) (.slice (some ad283) t277.length co39) t277) ∧ Aside0 (Kd.R (Kd.int .i64) 2 w' w.heap.size (fun k_ => some k_ ≠ ((.slice (some ad306) t284.length co41) : Value).ownBlock ∧ some k_ ≠ ((.slice Ao48 t308.length co48) : Value).ownBlock) v4 x4_2) ∧ Aside0 (Kd.R (Kd.int .i64) 2 w' w.heap.size (fun k_ => some k_ ≠ (v4 : Value).ownBlock ∧ some k_ ≠ ((.slice Ao48 t308.length co48) : Value).ownBlock) (.slice (some ad306) t284.length co41) t284) ∧ Aside0 (Kd.R (Kd.int .i64) 2 w' w.heap.size (fun k_ => some k_ ≠ (v4 : Value).ownBlock ∧ some k_ ≠ ((.slice (some ad306) t284.length co41) : Value).ownBlock) (.slice Ao48 t308.length co48) t308) ∧ Aside0 (Below w.heap.size w w'))
              case atStart => exact ⟨(x4_1), (0), (eW), H', ⟨Nat.le_refl _⟩, ⟨by (with_reducible repeat (first | apply Kd.N_alloc | apply Kd.N_drewN | apply Kd.N_drew)); exact Kd.N_mono HO_3.out (fun _ hk => ⟨hk.1.1, ⟨hk.1.2, hk.2⟩⟩)⟩, ⟨(rP HO_4.out)⟩, ⟨(rP HO_81.out)⟩, ⟨by (with_reducible repeat (first | apply Kd.R_alloc | apply Kd.R_drewN | apply Kd.R_drew)); exact Kd.R_mono HO310.out (fun _ hk => ⟨hk.1.2, hk.2⟩)⟩, ⟨bW⟩⟩
              case round =>
               clear H'
               try clear c1
               try clear c2
               try clear c2b0
               try clear c2b1
               try clear p2
               try clear q2
               try clear hx2
               try clear qi2
               try clear c3
               try clear c3b0
               try clear c3b1
               try clear p3
               try clear q3
               try clear hx3
               try clear qi3
               try clear c4
               try clear c4b0
               try clear c4b1
               try clear c7
               try clear c7b0
               try clear c7b1
               try clear c12
               try clear c12b0
               try clear c12b1
               try clear c14
               try clear c14b0
               try clear c14b1
               try clear c15
               try clear c15b0
               try clear c15b1
               try clear p26
               try clear q26
               try clear hx26
               try clear qi26
               try clear p27
               try clear q27
               try clear hx27
               try clear qi27
               try clear c28
               try clear p28
               try clear q28
               try clear hx28
               try clear qi28
               try clear c29
               try clear c30
               try clear p30
               try clear q30
               try clear hx30
               try clear qi30
               try clear c35
               try clear c35b0
               try clear c35b1
               try clear c39
               try clear c40
               try clear c41
               try clear c42
               try clear c42b0
               try clear c43
               try clear c43b0
               try clear c44
               try clear c44b0
               try clear c45
               try clear c45b0
               try clear c45b1
               try clear hx268_0
               try clear hx268_1
               try clear hx272_0
               try clear hx272_1
               try clear hx283_0
               try clear hx287_0
               try clear hx287_1
               try clear hx288_0
               try clear hx306_0
               try clear hx307_0
               try clear p2
               try clear p26
               try clear p268
               try clear p27
               try clear p272
               try clear p28
               try clear p283
               try clear p287
               try clear p288
               try clear p306
               try clear p307
               try clear q2
               try clear q26
               try clear q268
               try clear q27
               try clear q272
               try clear q28
               try clear q283
               try clear q287
               try clear q288
               try clear q306
               try clear q307
               obtain ⟨x4_2, x92_2, rfl, HA, HK2, HO_3, HO_4, HO_81, HO_90, HB⟩ := hrel
               cases gk with
               | zero => exact absurd HA.out (by simp [impl_contents.l1])
               | succ k2 =>
                have H := HA.out
                clear HA
                simp only [impl_contents.l1] at H
                by_cases c49 : x92_2 < (t308.length : Int)
                ·rw [if_pos c49] at H
                 have c49b0 : decide (x92_2 < (t308.length : Int)) = true := decide_eq_true c49
                 clear c49
                 by_cases c50 : 0 ≤ x92_2
                 ·rw [if_pos c50] at H
                  have c50b0 : decide (0 ≤ x92_2) = true := decide_eq_true c50
                  clear c50
                  by_cases c51 : x92_2 < (t308.length : Int)
                  ·rw [if_pos c51] at H
                   have c51b0 : decide (x92_2 < (t308.length : Int)) = true := decide_eq_true c51
                   clear c51
                   by_cases c52 : x4_2.length < 17592186044416
                   ·rw [if_pos c52] at H
                    have LMc52 := Aside0.mk c52
                    clear c52
                    obtain ⟨y312, hy312⟩ : ∃ y_ : List Int, y_ = (x4_2 ++ [Go.bits .or .i64 (rd t284 x83_1) (rd t308 x92_2)]) := ⟨_, rfl⟩
                    replace H : (impl_contents.l1 k2 t277 y312 (rd t284 x83_1) t284 (t284.length : Int) x83_1 t308 (t308.length : Int) (wrap64 (x92_2 + 1))) = some r := by first | (rw [hy312]; with_reducible exact H) | (have H2_ := (Option.bind_some _ _).symm.trans H; rw [hy312]; with_reducible exact H2_) | (have H2_ := (Option.bind_some _ _).symm.trans H; with_reducible exact H2_) | with_reducible exact H | (rw [hy312]; exact H) | exact H
                    have Ny312 := Aside0.mk hy312
                    clear hy312
                    have H' := Aside0.mk H
                    clear H
                    have p311 : 0 ≤ (x92_2 : Int) := ofD
                    have q311 : x92_2 < (t308.length : Int) := ofD
                    obtain ⟨ad311, e311, hx311_0⟩ := Kd.at_int (Kd.R_reads' HO_90.out).2.2 x92_2 p311 q311
                    cases e311
                    replace p311 := eq_true p311
                    replace q311 := eq_true q311
                    go_wp2_with (first | ((with_reducible refine gate_builtin (b := .append) (xs := #[.tmp 96, .tmp 100]) rfl ?_); at_builtin; refine Kd.R_append (Kd.int .i64) (w0 := w) w.heap.size rfl (.tmp 96) (.tmp 100) 22 2 (.int .i64 0) 8 rfl Tryd.underlying22 info2 rfl (by decide) (by omega) u4 x4_2 (Go.bits .or .i64 (rd t284 x83_1) (rd t308 x92_2)) [.int .i64 (Go.bits .or .i64 (rd t284 x83_1) (rd t308 x92_2))] (fun k_ => some k_ ≠ (.slice (some ad306) t284.length co41 : Value).ownBlock ∧ some k_ ≠ (.slice (some ad311) t308.length co48 : Value).ownBlock) (fun _ => False) rfl rfl ?aP (fun _ hk => hk.elim) ?aF ?aO ?aB ?aS ?aL ?_; (case aP => exact rfl); (case aB => exact (bW)); (case aF => exact (fun k_ hk => ⟨Kd.fresh' (Kd.R_lt (rP HO_81.out)) k_ hk, Kd.fresh' (Kd.R_lt (rP HO_90.out)) k_ hk⟩)); (case aO => exact (rP HO_4.out)); (case aS => exact (below_size (bW))); (case aL => have := LMc52.out; omega); intro v313 w53 ho hb hg hat; rw [← Ny312.out] at ho; have n0_ := Aside0.mk (Kd.N_afterv (ok := (fun k_ => some k_ ≠ (.slice (some ad306) t284.length co41 : Value).ownBlock ∧ some k_ ≠ (.slice (some ad311) t308.length co48 : Value).ownBlock)) (by (with_reducible repeat (first | apply Kd.N_alloc | apply Kd.N_drewN | apply Kd.N_drew)); exact Kd.N_mono HO_3.out (fun _ hk => ⟨⟨hk.2.1, hk.2.2⟩, hk.1⟩)) hg hat); have n1_ := Aside0.mk (Kd.R_after (ok := (fun k_ => some k_ ≠ (.slice (some ad311) t308.length co48 : Value).ownBlock)) (by (with_reducible repeat (first | apply Kd.R_alloc | apply Kd.R_drewN | apply Kd.R_drew)); exact Kd.R_mono HO_81.out (fun _ hk => ⟨hk.2, hk.1⟩)) hg hat); have n2_ := Aside0.mk (Kd.R_after (ok := (fun k_ => some k_ ≠ (.slice (some ad306) t284.length co41 : Value).ownBlock)) (by (with_reducible repeat (first | apply Kd.R_alloc | apply Kd.R_drewN | apply Kd.R_drew)); exact Kd.R_mono HO_90.out (fun _ hk => ⟨hk.2, hk.1⟩)) hg hat); have n3_ := Aside0.mk (hb); have n4_ := Aside0.mk (ho); clear HO_3 HO_81 HO_90 HB HO_4; have HO_3 := n0_; have HO_81 := n1_; have HO_90 := n2_; have HB := n3_; have HO314 := n4_; clear n0_ n1_ n2_ n3_ n4_ ho hb hg hat))
                    go_roundg k2
                    case measure => have := HK1.out; have := HK2.out; omega
                    case rel => exact ⟨(y312), (wrap64 (x92_2 + 1)), (eW), H', ⟨by have := HK1.out; have := HK2.out; omega⟩, ⟨by (with_reducible repeat (first | apply Kd.N_alloc | apply Kd.N_drewN | apply Kd.N_drew)); exact Kd.N_mono HO_3.out (fun _ hk => ⟨hk.2, ⟨hk.1.1, hk.1.2⟩⟩)⟩, ⟨(rP HO314.out)⟩, ⟨by (with_reducible repeat (first | apply Kd.R_alloc | apply Kd.R_drewN | apply Kd.R_drew)); exact Kd.R_mono HO_81.out (fun _ hk => ⟨hk.2, hk.1⟩)⟩, ⟨by (with_reducible repeat (first | apply Kd.R_alloc | apply Kd.R_drewN | apply Kd.R_drew)); exact Kd.R_mono HO_90.out (fun _ hk => ⟨hk.2, hk.1⟩)⟩, ⟨bW⟩⟩
                   ·rw [if_neg c52] at H
                    exact absurd H (by simp)
                  ·rw [if_neg c51] at H
                   exact absurd H (by simp)
                 ·rw [if_neg c50] at H
                  exact absurd H (by simp)
                ·rw [if_neg c49] at H
                 have c49b0 : decide (x92_2 < (t308.length : Int)) = false := decide_eq_false c49
                 clear c49
                 have H' := Aside0.mk H
                 clear H
                 go_wp2
                 go_roundg k2
                 case measure => have := HK1.out; have := HK2.out; omega
                 case rel => exact ⟨(x4_2), (wrap64 (x83_1 + 1)), (eW), H', ⟨by have := HK1.out; have := HK2.out; omega⟩, ⟨by (with_reducible repeat (first | apply Kd.N_alloc | apply Kd.N_drewN | apply Kd.N_drew)); exact Kd.N_mono HO_3.out (fun _ hk => ⟨hk.1, hk.2.1⟩)⟩, ⟨by (with_reducible repeat (first | apply Kd.R_alloc | apply Kd.R_drewN | apply Kd.R_drew)); exact Kd.R_mono HO_4.out (fun _ hk => hk.1)⟩, ⟨by (with_reducible repeat (first | apply Kd.R_alloc | apply Kd.R_drewN | apply Kd.R_drew)); exact Kd.R_mono HO_81.out (fun _ hk => hk.1)⟩, ⟨bW⟩⟩
             ·rw [if_neg c45] at H
              exact absurd H (by simp)
            ·rw [if_neg c44] at H
             exact absurd H (by simp)
           ·rw [if_neg c43] at H
            exact absurd H (by simp)
          ·rw [if_neg c42] at H
           have c42b0 : decide (x83_1 < (t284.length : Int)) = false := decide_eq_false c42
           clear c42
           replace H := Option.bind_eq_some_iff.mp H
           obtain ⟨t302, A540, H⟩ := H
           replace H : ((slices_Compact_int64_int64.f t302).bind fun t303 => (some t303)) = some r := H
           have A54 := Aside0.mk A540
           clear A540
           replace H := Option.bind_eq_some_iff.mp H
           obtain ⟨t303, A550, H⟩ := H
           replace H : (some t303) = some r := H
           have A55 := Aside0.mk A550
           clear A550
           obtain rfl := Option.some.inj H
           obtain ⟨Ao56, co56, eo56⟩ := Kd.R_slice HO_4.out
           subst eo56
           go_wp2_with (first | ((with_reducible refine gate_callee (f := 44) rfl ?_); refine goesS (some 105) Tryd.func44 #[.slice Ao56 x4_1.length co56] ?_; (with_reducible refine (slices_Sort_int64_int64.calls (fun k_ => some k_ = (.slice Ao56 x4_1.length co56 : Value).ownBlock) (.slice Ao56 x4_1.length co56) x4_1 t302 w _ ?side1 ?side2 A54.out).mono ?_); (case side1 => repeat (first | (with_reducible first | exact HB.out | apply below_alloc | apply pw_below_drewN | apply below_drew1) | exact HB.out)); (case side2 => exact Kd.R_tight rfl HO_4.out); rintro e w57 ⟨rfl, hy0, hb, hkp⟩; refine ⟨_, rfl, ?_⟩; have n0_ := Aside0.mk (Kd.N_mono (ok' := fun k_ => some k_ ≠ (.slice Ao56 x4_1.length co56 : Value).ownBlock ∧ some k_ ≠ (.slice Ao41 t284.length co41 : Value).ownBlock) (Kd.N_keptB (HO_3.out) hkp (fun k_ hk_ hs_ => (hk_.1) hs_)) (fun k_ hk_ => ⟨hk_.1.1, hk_.1.2⟩)); have n1_ := Aside0.mk (Kd.R_reok rfl hy0 (fun k_ e_ => HO_4.out.1 k_ e_)); have n2_ := Aside0.mk (Kd.R_mono (ok' := fun k_ => some k_ ≠ (.slice Ao56 x4_1.length co56 : Value).ownBlock) (Kd.R_keptB (HO_81.out) hkp (fun k_ hk_ hs_ => (hk_) hs_)) (fun k_ hk_ => hk_.1)); have n3_ := Aside0.mk (hb); clear HO_3 HO_4 HO_81 HB; have HO_3 := n0_; have HO_4 := n1_; have HO_81 := n2_; have HB := n3_; clear n0_ n1_ n2_ n3_; (try clear hb); (try clear hkp); (try clear hy0)) | ((with_reducible refine gate_callee (f := 45) rfl ?_); refine goesS (some 107) Tryd.func45 #[.slice Ao56 x4_1.length co56] ?_; (with_reducible refine (slices_Compact_int64_int64.calls (fun k_ => some k_ = (.slice Ao56 x4_1.length co56 : Value).ownBlock) (.slice Ao56 x4_1.length co56) t302 t303 w _ ?side1 ?side2 A55.out).mono ?_); (case side1 => repeat (first | (with_reducible first | exact HB.out | apply below_alloc | apply pw_below_drewN | apply below_drew1) | exact HB.out)); (case side2 => exact Kd.R_tight rfl HO_4.out); rintro e w58 ⟨v304, rfl, ho0, hb, hkp⟩; refine ⟨_, rfl, ?_⟩; have n0_ := Aside0.mk (Kd.N_mono (ok' := fun k_ => some k_ ≠ (.slice Ao41 t284.length co41 : Value).ownBlock ∧ some k_ ≠ (v304 : Value).ownBlock) (Kd.N_keptB (HO_3.out) hkp (fun k_ hk_ hs_ => (hk_.1) hs_)) (fun k_ hk_ => ⟨hk_.1.2, fun e_ => Or.elim (ho0.1 k_ e_.symm) (fun hs_ => hk_.2.1 hs_) (fun hn_ => Nat.not_le.2 hk_.2.2 hn_)⟩)); have n1_ := Aside0.mk (Kd.R_mono (ok' := fun k_ => some k_ ≠ (v304 : Value).ownBlock) (Kd.R_keptB (HO_81.out) hkp (fun k_ hk_ hs_ => (hk_) hs_)) (fun k_ hk_ => fun e_ => Or.elim (ho0.1 k_ e_.symm) (fun hs_ => hk_.2.1 hs_) (fun hn_ => Nat.not_le.2 hk_.2.2 hn_))); have n2_ := Aside0.mk (Kd.R_mono (ok' := fun k_ => some k_ ≠ (.slice Ao41 t284.length co41 : Value).ownBlock) ho0 (fun k_ hk_ => Or.elim hk_ (fun hs_ => fun e_ => (((HO_81.out).1 k_ e_.symm)) hs_) (fun hn_ => (Kd.fresh' (Kd.R_lt (rP HO_81.out)) k_ hn_)))); have n3_ := Aside0.mk (hb); clear HO_3 HO_81 HB HO_4; have HO_3 := n0_; have HO_81 := n1_; have HO305 := n2_; have HB := n3_; clear n0_ n1_ n2_ n3_; (try clear hb); (try clear hkp); (try clear ho0)))
           go_ret
           exact ⟨_, eW, by (with_reducible repeat (first | apply Kd.R_alloc | apply Kd.R_drewN | apply Kd.R_drew)); exact Kd.R_mono HO305.out (fun _ hk => trivial), bW⟩
       ·rw [if_neg c35] at H
        have c35b0 : (((rd_T50 l0 0).f0) == 4) = false := beq_eq_false_iff_ne.mpr c35
        have c35b1 : (((rd_T50 l0 0).f0) != 4) = true := bne_iff_ne.mpr c35
        obtain ⟨y315, hy315⟩ : ∃ y_ : List Int, y_ = (([0] : List Int)) := ⟨_, rfl⟩
        replace H : (impl_contents.l2 k y315 t284 (t284.length : Int) 0) = some r := by first | (rw [hy315]; with_reducible exact H) | (have H2_ := (Option.bind_some _ _).symm.trans H; rw [hy315]; with_reducible exact H2_) | (have H2_ := (Option.bind_some _ _).symm.trans H; with_reducible exact H2_) | with_reducible exact H | (rw [hy315]; exact H) | exact H
        have Ny315 := Aside0.mk hy315
        clear hy315
        have H' := Aside0.mk H
        clear H
        have p268 : 0 ≤ (0 : Int) := (by omega)
        have q268 : 0 < (l0.length : Int) := ofD
        obtain ⟨ad268, e268, hx268_0, hx268_1⟩ := at_T50 HR0.out 0 p268 q268
        cases e268
        have qi268 : (0 < l0.length) = True := eq_true (by omega)
        (try rw [show ((0 : Int)).toNat = 0 from rfl] at hx268_0)
        (try rw [show 0 * 2 = 0 from rfl] at hx268_0)
        (try rw [Addr.add_zero'] at hx268_0)
        (try rw [show ((0 : Int)).toNat = 0 from rfl] at hx268_1)
        (try rw [show 0 * 2 = 0 from rfl] at hx268_1)
        (try rw [Addr.add_zero'] at hx268_1)
        replace p268 := eq_true p268
        replace q268 := eq_true q268
        go_enter Tryd.func29, Tryd.ntmps29
        go_wp2_with (first | ((with_reducible refine gate_callee (f := 40) rfl ?_); refine goesS (some 32) Tryd.func40 #[.slice (some ad268) l0.length c0] ?_; (with_reducible refine (impl_parts.calls k (fun k_ => k_ < w.heap.size) _ _ l0 t277 _ ?side1 A11.out).mono ?_); (case side1 => exact Kd.V_mk HC0.out (Kd.F_below (Kd.C_F k50_heap HR0.out) (bW))); rintro e w59 ⟨v278, rfl, ho0, hb⟩; refine ⟨_, rfl, ?_⟩; have n0_ := Aside0.mk (Kd.N_lower (Kd.N_mono (ok' := fun k_ => True) ho0 (fun k_ hk_ => trivial)) (below_size (bW))); have n1_ := Aside0.mk (below_step (bW) hb); clear HB; have HO279 := n0_; have HB := n1_; clear n0_ n1_; (try clear hb); (try clear hb2); (try clear hk); (try clear hi); (try clear ho0)) | ((with_reducible refine gate_dst (N := 33) rfl ?_); refine Kd.R_lit (Kd.int .i64) _ 2 ?hg (N := 33) ?hd (xs := ([] : List Int)) (inner := []) (ok := fun _ => True) (okp := fun _ => True) ?hr ?hp (fun _ hk => hk) trivial (Below.refl _ _) (Nat.le_refl _) (by simp) ?_; (case hd => rfl); (case hg => rfl); (case hr => first | (go_simp; done) | (go_simp; rfl)); (case hp => exact (Reps.none _ _)); intro v281 w60 ho61 hb hg_ hnew_; clear hg_ hnew_; (first | rw [← Ny280.out] at ho61 | (simp only [Int.reduceToNat] at ho61; rw [← Ny280.out] at ho61)); have n0_ := Aside0.mk (Kd.N_elder' (by (with_reducible repeat (first | apply Kd.N_alloc | apply Kd.N_drewN | apply Kd.N_drew)); exact HO279.out) (Kd.R_base ho61) hb); have n1_ := Aside0.mk (Kd.R_lower ho61 (below_size (bW))); have n2_ := Aside0.mk (below_step (bW) hb); clear HO279 HB; have HO279 := n0_; have HO282 := n1_; have HB := n2_; clear n0_ n1_ n2_ hb ho61; obtain ⟨Ao62, co62, eo62⟩ := Kd.N_slice HO279.out; subst eo62; have p283 : 0 ≤ (0 : Int) := (by omega); have q283 : 0 < (t277.length : Int) := ofD; obtain ⟨ad283, A283_0, c283_0, e283, hx283_0, hl283_0, hi283_0⟩ := at_L6 (Kd.N_reads' HO279.out).2.2 0 p283 q283; cases e283; obtain ⟨ce283, hce283, hMe283, hcc283⟩ := Kd.N_get HO279.out [] 0 p283 (by first | exact q283 | exact ofD | (have e_ := (Kd.N_reads' HO279.out).1; omega)); obtain ⟨ua283_0, uc283_0, rfl, ul283_0, ge283_0⟩ := Kd.FK_slice_open hMe283; have hv283_0 := hcc283 0 _ rfl; rw [Nat.add_zero, show ((Kd.slice 50 k50)).sz = 1 from rfl, Nat.mul_one] at hv283_0; replace hv283_0 := Option.some.inj (hv283_0.symm.trans hx283_0); injection hv283_0 with hva_ hvn_ hvc_; rw [hva_] at ge283_0; rw [hvc_] at ul283_0; have HL283_0 := Aside0.mk (show Kd.V k50 50 _ w.heap.size _ _ (rd_L6 t277 0) from Kd.V_mk ul283_0 ge283_0); clear hva_ hvn_ hvc_ ge283_0 ul283_0 hcc283 hce283; have qi283 : (0 < t277.length) = True := eq_true (by omega); (try rw [show ((0 : Int)).toNat = 0 from rfl] at hx283_0); (try rw [Addr.add_zero'] at hx283_0); have HR283_0 := Aside0.mk hi283_0; have HC283_0 := Aside0.mk hl283_0; clear hi283_0 hl283_0; replace p283 := eq_true p283; replace q283 := eq_true q283) | ((with_reducible refine gate_callee (f := 29) rfl ?_); refine goesS (some 37) Tryd.func29 #[.slice A283_0 (rd_L6 t277 0).length c283_0] ?_; (with_reducible refine (ih k (by omega) _ _ (rd_L6 t277 0) t284 _ ?side1 ?side2 A13.out).mono ?_); (case side1 => exact cP (by repeat (first | (with_reducible exact HR283_0.out) | (with_reducible refine Kd.C_alloc ?_ _) | (with_reducible refine Kd.C_drewN ?_ _) | (with_reducible refine Kd.C_drew ?_) | exact HR283_0.out))); (case side2 => exact HC283_0.out); rintro e w63 ⟨v285, rfl, ho0, hb⟩; refine ⟨_, rfl, ?_⟩; have n0_ := Aside0.mk (Kd.N_elder' (by (with_reducible repeat (first | apply Kd.N_alloc | apply Kd.N_drewN | apply Kd.N_drew)); exact HO279.out) (Kd.R_base ho0) hb); have n1_ := Aside0.mk (Kd.R_elder' (rP HO282.out) (Kd.R_base ho0) hb); have n2_ := Aside0.mk (Kd.V_elder' (by (with_reducible repeat (first | apply Kd.V_alloc | apply Kd.V_drewN | apply Kd.V_drew)); exact HL283_0.out) (Kd.R_base ho0) hb); have n3_ := Aside0.mk (Kd.R_lower (Kd.R_new' ho0 (Kd.R_lt (rP HO282.out))) (below_size (bW))); have n4_ := Aside0.mk (Kd.C_below (by repeat (first | (with_reducible exact HR283_0.out) | (with_reducible refine Kd.C_alloc ?_ _) | (with_reducible refine Kd.C_drewN ?_ _) | (with_reducible refine Kd.C_drew ?_) | exact HR283_0.out)) hb); have n5_ := Aside0.mk (below_step (bW) hb); clear HO279 HO282 HL283_0 HR283_0 HB; have HO279 := n0_; have HO282 := n1_; have HL283_0 := n2_; have HO286 := n3_; have HR283_0 := n4_; have HB := n5_; clear n0_ n1_ n2_ n3_ n4_ n5_; (try clear hb); (try clear hb2); (try clear hk); (try clear hi); (try clear ho0); have p287 : 0 ≤ (0 : Int) := (by omega); have q287 : 0 < (l0.length : Int) := ofD; obtain ⟨ad287, e287, hx287_0, hx287_1⟩ := at_T50 HR0.out 0 p287 q287; obtain rfl : ad268 = ad287 := (by injection e287); have qi287 : (0 < l0.length) = True := eq_true (by omega); (try rw [show ((0 : Int)).toNat = 0 from rfl] at hx287_0); (try rw [show 0 * 2 = 0 from rfl] at hx287_0); (try rw [Addr.add_zero'] at hx287_0); (try rw [show ((0 : Int)).toNat = 0 from rfl] at hx287_1); (try rw [show 0 * 2 = 0 from rfl] at hx287_1); (try rw [Addr.add_zero'] at hx287_1); replace hx287_0 := (HB.out.cell (World.block_lt_of_cell? w _ hx287_0)).trans hx287_0; replace hx287_1 := (HB.out.cell (World.block_lt_of_cell? w _ hx287_1)).trans hx287_1; replace p287 := eq_true p287; replace q287 := eq_true q287) | ((with_reducible refine gate_dst (N := 42) rfl ?_); refine Kd.R_lit (Kd.int .i64) _ 2 ?hg (N := 42) ?hd (xs := ([0] : List Int)) (inner := [.int .i64 0]) (ok := fun _ => True) (okp := fun _ => True) ?hr ?hp (fun _ hk => hk) trivial (Below.refl _ _) (Nat.le_refl _) (by simp) ?_; (case hd => rfl); (case hg => rfl); (case hr => first | (go_simp; done) | (go_simp; rfl)); (case hp => exact (Reps.one (show Kd.M (Kd.int .i64) _ _ _ 0 [.int .i64 0] from rfl) (Reps.none _ _))); intro v316 w64 ho65 hb hg_ hnew_; clear hg_ hnew_; (first | rw [← Ny315.out] at ho65 | (simp only [Int.reduceToNat] at ho65; rw [← Ny315.out] at ho65)); have n0_ := Aside0.mk (Kd.N_elder' (by (with_reducible repeat (first | apply Kd.N_alloc | apply Kd.N_drewN | apply Kd.N_drew)); exact HO279.out) (Kd.R_base ho65) hb); have n1_ := Aside0.mk (Kd.R_elder' (rP HO282.out) (Kd.R_base ho65) hb); have n2_ := Aside0.mk (Kd.V_elder' (by (with_reducible repeat (first | apply Kd.V_alloc | apply Kd.V_drewN | apply Kd.V_drew)); exact HL283_0.out) (Kd.R_base ho65) hb); have n3_ := Aside0.mk (Kd.R_elder' (rP HO286.out) (Kd.R_base ho65) hb); have n4_ := Aside0.mk (Kd.R_lower (Kd.R_new' (Kd.R_new' ho65 (Kd.R_lt (rP HO282.out))) (Kd.R_lt (rP HO286.out))) (below_size (bW))); have n5_ := Aside0.mk (Kd.C_below (by repeat (first | (with_reducible exact HR283_0.out) | (with_reducible refine Kd.C_alloc ?_ _) | (with_reducible refine Kd.C_drewN ?_ _) | (with_reducible refine Kd.C_drew ?_) | exact HR283_0.out)) hb); have n6_ := Aside0.mk (below_step (bW) hb); clear HO279 HO282 HL283_0 HO286 HR283_0 HB; have HO279 := n0_; have HO282 := n1_; have HL283_0 := n2_; have HO286 := n3_; have HO317 := n4_; have HR283_0 := n5_; have HB := n6_; clear n0_ n1_ n2_ n3_ n4_ n5_ n6_ hb ho65; obtain ⟨Ao66, co66, eo66⟩ := Kd.R_slice HO286.out; subst eo66))
        go_loopg [4, 45] k (fun kq v4 v45 w' => ∃ (x4_1 : List Int) (x45_1 : Int), v45 = .int .i64 x45_1 ∧ Aside0 (impl_contents.l2 kq x4_1 t284 (t284.length : Int) x45_1 = some r) ∧ Aside0 (kq ≤ k) ∧ Aside0 (Kd.R (Kd.int .i64) 2 w' w.heap.size (fun k_ => some k_ ≠ ((.slice Ao66 t284.length co66) : Value).ownBlock) v4 x4_1) ∧ Aside0 (Kd.R (Kd.int .i64) 2 w' w.heap.size (fun k_ => some k_ ≠ (v4 : Value).ownBlock) (.slice Ao66 t284.length co66) t284) ∧ Aside0 (Below w.heap.size w w'))
        case atStart => exact ⟨(y315), (0), (eW), H', ⟨Nat.le_refl _⟩, ⟨by (with_reducible repeat (first | apply Kd.R_alloc | apply Kd.R_drewN | apply Kd.R_drew)); exact Kd.R_mono HO317.out (fun _ hk => hk.2)⟩, ⟨by (with_reducible repeat (first | apply Kd.R_alloc | apply Kd.R_drewN | apply Kd.R_drew)); exact Kd.R_mono HO286.out (fun _ hk => hk.2)⟩, ⟨bW⟩⟩
        case round =>
         clear H'
         try clear c1
         try clear c2
         try clear c2b0
         try clear c2b1
         try clear p2
         try clear q2
         try clear hx2
         try clear qi2
         try clear c3
         try clear c3b0
         try clear c3b1
         try clear p3
         try clear q3
         try clear hx3
         try clear qi3
         try clear c4
         try clear c4b0
         try clear c4b1
         try clear c5
         try clear p6
         try clear c7
         try clear c7b0
         try clear c7b1
         try clear c12
         try clear c12b0
         try clear c12b1
         try clear c14
         try clear c14b0
         try clear c14b1
         try clear c15
         try clear c15b0
         try clear c15b1
         try clear p26
         try clear q26
         try clear hx26
         try clear qi26
         try clear p27
         try clear q27
         try clear hx27
         try clear qi27
         try clear c28
         try clear p28
         try clear q28
         try clear hx28
         try clear qi28
         try clear c29
         try clear c30
         try clear p30
         try clear q30
         try clear hx30
         try clear qi30
         try clear p31
         try clear q31
         try clear hx31
         try clear c35
         try clear c35b0
         try clear c35b1
         try clear c39
         try clear c40
         try clear c41
         try clear c42
         try clear c42b0
         try clear c43
         try clear c43b0
         try clear c44
         try clear c44b0
         try clear c45
         try clear c45b0
         try clear c45b1
         try clear c49
         try clear c49b0
         try clear c50
         try clear c50b0
         try clear c51
         try clear c51b0
         try clear c52
         try clear p64
         try clear hx268_0
         try clear hx268_1
         try clear hx272_0
         try clear hx272_1
         try clear hx283_0
         try clear hx287_0
         try clear hx287_1
         try clear hx288_0
         try clear hx306_0
         try clear hx307_0
         try clear hx311_0
         try clear p2
         try clear p26
         try clear p268
         try clear p27
         try clear p272
         try clear p28
         try clear p283
         try clear p287
         try clear p288
         try clear p3
         try clear p30
         try clear p306
         try clear p307
         try clear p311
         try clear q2
         try clear q26
         try clear q268
         try clear q27
         try clear q272
         try clear q28
         try clear q283
         try clear q287
         try clear q288
         try clear q3
         try clear q30
         try clear q306
         try clear q307
         try clear q311
         obtain ⟨x4_1, x45_1, rfl, HA, HK1, HO_4, HO_43, HB⟩ := hrel
         cases gk with
         | zero => exact absurd HA.out (by simp [impl_contents.l2])
         | succ k1 =>
          have H := HA.out
          clear HA
          simp only [impl_contents.l2] at H
          by_cases c67 : x45_1 < (t284.length : Int)
          ·rw [if_pos c67] at H
           have c67b0 : decide (x45_1 < (t284.length : Int)) = true := decide_eq_true c67
           clear c67
           by_cases c68 : 0 ≤ x45_1
           ·rw [if_pos c68] at H
            have c68b0 : decide (0 ≤ x45_1) = true := decide_eq_true c68
            clear c68
            by_cases c69 : x45_1 < (t284.length : Int)
            ·rw [if_pos c69] at H
             have c69b0 : decide (x45_1 < (t284.length : Int)) = true := decide_eq_true c69
             clear c69
             replace H := Option.bind_eq_some_iff.mp H
             obtain ⟨t323, A700, H⟩ := H
             replace H : (impl_contents.l3 k1 x4_1 (rd t284 x45_1) t284 (t284.length : Int) x45_1 t323 (t323.length : Int) 0) = some r := H
             have A70 := Aside0.mk A700
             clear A700
             have H' := Aside0.mk H
             clear H
             have p322 : 0 ≤ (x45_1 : Int) := ofD
             have q322 : x45_1 < (t284.length : Int) := ofD
             obtain ⟨ad322, e322, hx322_0⟩ := Kd.at_int (Kd.R_reads' HO_43.out).2.2 x45_1 p322 q322
             cases e322
             replace p322 := eq_true p322
             replace q322 := eq_true q322
             obtain ⟨Ao71, co71, eo71⟩ := Kd.R_slice HO_4.out
             subst eo71
             go_wp2_with (first | ((with_reducible refine gate_callee (f := 42) rfl ?_); refine goesS (some 50) Tryd.func42 #[.slice Ao71 x4_1.length co71] ?_; (with_reducible refine (slices_Clone_int64_int64.calls _ _ x4_1 t323 _ ?side1 ?side2 A70.out).mono ?_); (case side1 => exact cP ((Kd.R_reads' HO_4.out).2.2)); (case side2 => exact (Kd.R_reads' HO_4.out).2.1); rintro e w72 ⟨v324, rfl, ho0, hb⟩; refine ⟨_, rfl, ?_⟩; have n0_ := Aside0.mk (Kd.R_elder' (rP HO_4.out) (Kd.R_base ho0) hb); have n1_ := Aside0.mk (Kd.R_elder' (rP HO_43.out) (Kd.R_base ho0) hb); have n2_ := Aside0.mk (Kd.R_lower (Kd.R_new' (Kd.R_new' ho0 (Kd.R_lt (rP HO_4.out))) (Kd.R_lt (rP HO_43.out))) (below_size (bW))); have n3_ := Aside0.mk (below_step (bW) hb); clear HO_4 HO_43 HB; have HO_4 := n0_; have HO_43 := n1_; have HO325 := n2_; have HB := n3_; clear n0_ n1_ n2_ n3_; (try clear hb); (try clear hb2); (try clear hk); (try clear hi); (try clear ho0); obtain ⟨Ao73, co73, eo73⟩ := Kd.R_slice HO325.out; subst eo73))
             go_loopg [4, 52] k1 (fun kq v4 v52 w' => ∃ (x4_2 : List Int) (x52_2 : Int), v52 = .int .i64 x52_2 ∧ Aside0 (impl_contents.l3 kq x4_2 (rd t284 x45_1) t284 (t284.length : Int) x45_1 t323 (t323.length : Int) x52_2 = some r) ∧ Aside0 (kq ≤ k1) ∧ Aside0 (Kd.R (Kd.int .i64) 2 w' w.heap.size (fun k_ => some k_ ≠ ((.slice (some ad322) t284.length co66) : Value).ownBlock ∧ some k_ ≠ ((.slice Ao73 t323.length co73) : Value).ownBlock) v4 x4_2) ∧ Aside0 (Kd.R (Kd.int .i64) 2 w' w.heap.size (fun k_ => some k_ ≠ (v4 : Value).ownBlock ∧ some k_ ≠ ((.slice Ao73 t323.length co73) : Value).ownBlock) (.slice (some ad322) t284.length co66) t284) ∧ Aside0 (Kd.R (Kd.int .i64) 2 w' w.heap.size (fun k_ => some k_ ≠ (v4 : Value).ownBlock ∧ some k_ ≠ ((.slice (some ad322) t284.length co66) : Value).ownBlock) (.slice Ao73 t323.length co73) t323) ∧ Aside0 (Below w.heap.size w w'))
             case atStart => exact ⟨(x4_1), (0), (eW), H', ⟨Nat.le_refl _⟩, ⟨(rP HO_4.out)⟩, ⟨(rP HO_43.out)⟩, ⟨by (with_reducible repeat (first | apply Kd.R_alloc | apply Kd.R_drewN | apply Kd.R_drew)); exact Kd.R_mono HO325.out (fun _ hk => ⟨hk.1.2, hk.2⟩)⟩, ⟨bW⟩⟩
             case round =>
              clear H'
              try clear c1
              try clear c2
              try clear c2b0
              try clear c2b1
              try clear p2
              try clear q2
              try clear hx2
              try clear qi2
              try clear c3
              try clear c3b0
              try clear c3b1
              try clear p3
              try clear q3
              try clear hx3
              try clear qi3
              try clear c4
              try clear c4b0
              try clear c4b1
              try clear c5
              try clear c6
              try clear p6
              try clear c7
              try clear c7b0
              try clear c7b1
              try clear c12
              try clear c12b0
              try clear c12b1
              try clear c14
              try clear c14b0
              try clear c14b1
              try clear c15
              try clear c15b0
              try clear c15b1
              try clear p26
              try clear q26
              try clear hx26
              try clear qi26
              try clear p27
              try clear q27
              try clear hx27
              try clear qi27
              try clear c28
              try clear p28
              try clear q28
              try clear hx28
              try clear qi28
              try clear c29
              try clear c30
              try clear p30
              try clear q30
              try clear hx30
              try clear qi30
              try clear p31
              try clear q31
              try clear hx31
              try clear p32
              try clear q32
              try clear hx32
              try clear c35
              try clear c35b0
              try clear c35b1
              try clear c39
              try clear c40
              try clear c41
              try clear c42
              try clear c42b0
              try clear c43
              try clear c43b0
              try clear c44
              try clear c44b0
              try clear c45
              try clear c45b0
              try clear c45b1
              try clear c49
              try clear c49b0
              try clear c50
              try clear c50b0
              try clear c51
              try clear c51b0
              try clear c52
              try clear p64
              try clear c67
              try clear c67b0
              try clear c68
              try clear c68b0
              try clear c69
              try clear c69b0
              try clear hx268_0
              try clear hx268_1
              try clear hx272_0
              try clear hx272_1
              try clear hx283_0
              try clear hx287_0
              try clear hx287_1
              try clear hx288_0
              try clear hx306_0
              try clear hx307_0
              try clear hx311_0
              try clear hx322_0
              try clear p2
              try clear p26
              try clear p268
              try clear p27
              try clear p272
              try clear p28
              try clear p283
              try clear p287
              try clear p288
              try clear p3
              try clear p30
              try clear p306
              try clear p307
              try clear p31
              try clear p311
              try clear p322
              try clear p6
              try clear p64
              try clear q2
              try clear q26
              try clear q268
              try clear q27
              try clear q272
              try clear q28
              try clear q283
              try clear q287
              try clear q288
              try clear q3
              try clear q30
              try clear q306
              try clear q307
              try clear q31
              try clear q311
              try clear q322
              obtain ⟨x4_2, x52_2, rfl, HA, HK2, HO_4, HO_43, HO_50, HB⟩ := hrel
              cases gk with
              | zero => exact absurd HA.out (by simp [impl_contents.l3])
              | succ k2 =>
               have H := HA.out
               clear HA
               simp only [impl_contents.l3] at H
               by_cases c74 : x52_2 < (t323.length : Int)
               ·rw [if_pos c74] at H
                have c74b0 : decide (x52_2 < (t323.length : Int)) = true := decide_eq_true c74
                clear c74
                by_cases c75 : 0 ≤ x52_2
                ·rw [if_pos c75] at H
                 have c75b0 : decide (0 ≤ x52_2) = true := decide_eq_true c75
                 clear c75
                 by_cases c76 : x52_2 < (t323.length : Int)
                 ·rw [if_pos c76] at H
                  have c76b0 : decide (x52_2 < (t323.length : Int)) = true := decide_eq_true c76
                  clear c76
                  replace H := Option.bind_eq_some_iff.mp H
                  obtain ⟨t327, A770, H⟩ := H
                  replace H : (if t327 = true then (impl_contents.l3 k2 x4_2 (rd t284 x45_1) t284 (t284.length : Int) x45_1 t323 (t323.length : Int) (wrap64 (x52_2 + 1))) else (if x4_2.length < 17592186044416 then (impl_contents.l3 k2 (x4_2 ++ [Go.bits .or .i64 (rd t284 x45_1) (rd t323 x52_2)]) (rd t284 x45_1) t284 (t284.length : Int) x45_1 t323 (t323.length : Int) (wrap64 (x52_2 + 1))) else (none))) = some r := H
                  have A77 := Aside0.mk A770
                  clear A770
                  by_cases c78 : t327 = true
                  ·subst c78
                   have H1 : (impl_contents.l3 k2 x4_2 (rd t284 x45_1) t284 (t284.length : Int) x45_1 t323 (t323.length : Int) (wrap64 (x52_2 + 1))) = some r := by rw [if_pos rfl] at H; exact H
                   clear H
                   have H := H1
                   clear H1
                   have H' := Aside0.mk H
                   clear H
                   have p326 : 0 ≤ (x52_2 : Int) := ofD
                   have q326 : x52_2 < (t323.length : Int) := ofD
                   obtain ⟨ad326, e326, hx326_0⟩ := Kd.at_int (Kd.R_reads' HO_50.out).2.2 x52_2 p326 q326
                   cases e326
                   replace p326 := eq_true p326
                   replace q326 := eq_true q326
                   obtain ⟨Ao79, co79, eo79⟩ := Kd.R_slice HO_4.out
                   subst eo79
                   go_wp2_with (first | ((with_reducible refine gate_callee (f := 43) rfl ?_); refine goesS (some 60) Tryd.func43 #[.slice Ao79 x4_2.length co79, .int .i64 (Go.bits .or .i64 (rd t284 x45_1) (rd t323 x52_2))] ?_; (with_reducible refine (slices_Contains_int64_int64.calls k2 _ _ x4_2 (Go.bits .or .i64 (rd t284 x45_1) (rd t323 x52_2)) true _ ?side1 ?side2 A77.out).mono ?_); (case side1 => exact cP ((Kd.R_reads' HO_4.out).2.2)); (case side2 => exact (Kd.R_reads' HO_4.out).2.1); rintro e w' ⟨rfl, ⟨nd, rfl⟩⟩; refine ⟨_, rfl, ?_⟩))
                   go_roundg k2
                   case measure => have := HK1.out; have := HK2.out; omega
                   case rel => exact ⟨(x4_2), (wrap64 (x52_2 + 1)), (eW), H', ⟨by have := HK1.out; have := HK2.out; omega⟩, ⟨(rP HO_4.out)⟩, ⟨(rP HO_43.out)⟩, ⟨(rP HO_50.out)⟩, ⟨bW⟩⟩
                  ·replace c78 := Bool.eq_false_iff.mpr c78
                   subst c78
                   have H1 : (if x4_2.length < 17592186044416 then (impl_contents.l3 k2 (x4_2 ++ [Go.bits .or .i64 (rd t284 x45_1) (rd t323 x52_2)]) (rd t284 x45_1) t284 (t284.length : Int) x45_1 t323 (t323.length : Int) (wrap64 (x52_2 + 1))) else (none)) = some r := by rw [if_neg (show ¬ (false = true) by decide)] at H; exact H
                   clear H
                   have H := H1
                   clear H1
                   by_cases c80 : x4_2.length < 17592186044416
                   ·rw [if_pos c80] at H
                    have LMc80 := Aside0.mk c80
                    clear c80
                    obtain ⟨y328, hy328⟩ : ∃ y_ : List Int, y_ = (x4_2 ++ [Go.bits .or .i64 (rd t284 x45_1) (rd t323 x52_2)]) := ⟨_, rfl⟩
                    replace H : (impl_contents.l3 k2 y328 (rd t284 x45_1) t284 (t284.length : Int) x45_1 t323 (t323.length : Int) (wrap64 (x52_2 + 1))) = some r := by first | (rw [hy328]; with_reducible exact H) | (have H2_ := (Option.bind_some _ _).symm.trans H; rw [hy328]; with_reducible exact H2_) | (have H2_ := (Option.bind_some _ _).symm.trans H; with_reducible exact H2_) | with_reducible exact H | (rw [hy328]; exact H) | exact H
                    have Ny328 := Aside0.mk hy328
                    clear hy328
                    have H' := Aside0.mk H
                    clear H
                    have p326 : 0 ≤ (x52_2 : Int) := ofD
                    have q326 : x52_2 < (t323.length : Int) := ofD
                    obtain ⟨ad326, e326, hx326_0⟩ := Kd.at_int (Kd.R_reads' HO_50.out).2.2 x52_2 p326 q326
                    cases e326
                    replace p326 := eq_true p326
                    replace q326 := eq_true q326
                    obtain ⟨Ao81, co81, eo81⟩ := Kd.R_slice HO_4.out
                    subst eo81
                    go_wp2_with (first | ((with_reducible refine gate_callee (f := 43) rfl ?_); refine goesS (some 60) Tryd.func43 #[.slice Ao81 x4_2.length co81, .int .i64 (Go.bits .or .i64 (rd t284 x45_1) (rd t323 x52_2))] ?_; (with_reducible refine (slices_Contains_int64_int64.calls k2 _ _ x4_2 (Go.bits .or .i64 (rd t284 x45_1) (rd t323 x52_2)) false _ ?side1 ?side2 A77.out).mono ?_); (case side1 => exact cP ((Kd.R_reads' HO_4.out).2.2)); (case side2 => exact (Kd.R_reads' HO_4.out).2.1); rintro e w' ⟨rfl, ⟨nd, rfl⟩⟩; refine ⟨_, rfl, ?_⟩) | ((with_reducible refine gate_builtin (b := .append) (xs := #[.tmp 62, .tmp 66]) rfl ?_); at_builtin; refine Kd.R_append (Kd.int .i64) (w0 := w) w.heap.size rfl (.tmp 62) (.tmp 66) 22 2 (.int .i64 0) 8 rfl Tryd.underlying22 info2 rfl (by decide) (by omega) (.slice Ao81 x4_2.length co81) x4_2 (Go.bits .or .i64 (rd t284 x45_1) (rd t323 x52_2)) [.int .i64 (Go.bits .or .i64 (rd t284 x45_1) (rd t323 x52_2))] (fun k_ => some k_ ≠ (.slice (some ad322) t284.length co66 : Value).ownBlock ∧ some k_ ≠ (.slice (some ad326) t323.length co73 : Value).ownBlock) (fun _ => False) rfl rfl ?aP (fun _ hk => hk.elim) ?aF ?aO ?aB ?aS ?aL ?_; (case aP => exact rfl); (case aB => exact (bW)); (case aF => exact (fun k_ hk => ⟨Kd.fresh' (Kd.R_lt (rP HO_43.out)) k_ hk, Kd.fresh' (Kd.R_lt (rP HO_50.out)) k_ hk⟩)); (case aO => exact (rP HO_4.out)); (case aS => exact (below_size (bW))); (case aL => have := LMc80.out; omega); intro v329 w82 ho hb hg hat; rw [← Ny328.out] at ho; have n0_ := Aside0.mk (Kd.R_after (ok := (fun k_ => some k_ ≠ (.slice (some ad326) t323.length co73 : Value).ownBlock)) (by (with_reducible repeat (first | apply Kd.R_alloc | apply Kd.R_drewN | apply Kd.R_drew)); exact Kd.R_mono HO_43.out (fun _ hk => ⟨hk.2, hk.1⟩)) hg hat); have n1_ := Aside0.mk (Kd.R_after (ok := (fun k_ => some k_ ≠ (.slice (some ad322) t284.length co66 : Value).ownBlock)) (by (with_reducible repeat (first | apply Kd.R_alloc | apply Kd.R_drewN | apply Kd.R_drew)); exact Kd.R_mono HO_50.out (fun _ hk => ⟨hk.2, hk.1⟩)) hg hat); have n2_ := Aside0.mk (hb); have n3_ := Aside0.mk (ho); clear HO_43 HO_50 HB HO_4; have HO_43 := n0_; have HO_50 := n1_; have HB := n2_; have HO330 := n3_; clear n0_ n1_ n2_ n3_ ho hb hg hat))
                    go_roundg k2
                    case measure => have := HK1.out; have := HK2.out; omega
                    case rel => exact ⟨(y328), (wrap64 (x52_2 + 1)), (eW), H', ⟨by have := HK1.out; have := HK2.out; omega⟩, ⟨(rP HO330.out)⟩, ⟨by (with_reducible repeat (first | apply Kd.R_alloc | apply Kd.R_drewN | apply Kd.R_drew)); exact Kd.R_mono HO_43.out (fun _ hk => ⟨hk.2, hk.1⟩)⟩, ⟨by (with_reducible repeat (first | apply Kd.R_alloc | apply Kd.R_drewN | apply Kd.R_drew)); exact Kd.R_mono HO_50.out (fun _ hk => ⟨hk.2, hk.1⟩)⟩, ⟨bW⟩⟩
                   ·rw [if_neg c80] at H
                    exact absurd H (by simp)
                 ·rw [if_neg c76] at H
                  exact absurd H (by simp)
                ·rw [if_neg c75] at H
                 exact absurd H (by simp)
               ·rw [if_neg c74] at H
                have c74b0 : decide (x52_2 < (t323.length : Int)) = false := decide_eq_false c74
                clear c74
                have H' := Aside0.mk H
                clear H
                go_wp2
                go_roundg k2
                case measure => have := HK1.out; have := HK2.out; omega
                case rel => exact ⟨(x4_2), (wrap64 (x45_1 + 1)), (eW), H', ⟨by have := HK1.out; have := HK2.out; omega⟩, ⟨by (with_reducible repeat (first | apply Kd.R_alloc | apply Kd.R_drewN | apply Kd.R_drew)); exact Kd.R_mono HO_4.out (fun _ hk => hk.1)⟩, ⟨by (with_reducible repeat (first | apply Kd.R_alloc | apply Kd.R_drewN | apply Kd.R_drew)); exact Kd.R_mono HO_43.out (fun _ hk => hk.1)⟩, ⟨bW⟩⟩
            ·rw [if_neg c69] at H
             exact absurd H (by simp)
           ·rw [if_neg c68] at H
            exact absurd H (by simp)
          ·rw [if_neg c67] at H
           have c67b0 : decide (x45_1 < (t284.length : Int)) = false := decide_eq_false c67
           clear c67
           replace H := Option.bind_eq_some_iff.mp H
           obtain ⟨t318, A830, H⟩ := H
           replace H : ((slices_Compact_int64_int64.f t318).bind fun t319 => (some t319)) = some r := H
           have A83 := Aside0.mk A830
           clear A830
           replace H := Option.bind_eq_some_iff.mp H
           obtain ⟨t319, A840, H⟩ := H
           replace H : (some t319) = some r := H
           have A84 := Aside0.mk A840
           clear A840
           obtain rfl := Option.some.inj H
           obtain ⟨Ao85, co85, eo85⟩ := Kd.R_slice HO_4.out
           subst eo85
           go_wp2_with (first | ((with_reducible refine gate_callee (f := 44) rfl ?_); refine goesS (some 105) Tryd.func44 #[.slice Ao85 x4_1.length co85] ?_; (with_reducible refine (slices_Sort_int64_int64.calls (fun k_ => some k_ = (.slice Ao85 x4_1.length co85 : Value).ownBlock) (.slice Ao85 x4_1.length co85) x4_1 t318 w _ ?side1 ?side2 A83.out).mono ?_); (case side1 => repeat (first | (with_reducible first | exact HB.out | apply below_alloc | apply pw_below_drewN | apply below_drew1) | exact HB.out)); (case side2 => exact Kd.R_tight rfl HO_4.out); rintro e w86 ⟨rfl, hy0, hb, hkp⟩; refine ⟨_, rfl, ?_⟩; have n0_ := Aside0.mk (Kd.R_reok rfl hy0 (fun k_ e_ => HO_4.out.1 k_ e_)); have n1_ := Aside0.mk (Kd.R_mono (ok' := fun k_ => some k_ ≠ (.slice Ao85 x4_1.length co85 : Value).ownBlock) (Kd.R_keptB (HO_43.out) hkp (fun k_ hk_ hs_ => (hk_) hs_)) (fun k_ hk_ => hk_.1)); have n2_ := Aside0.mk (hb); clear HO_4 HO_43 HB; have HO_4 := n0_; have HO_43 := n1_; have HB := n2_; clear n0_ n1_ n2_; (try clear hb); (try clear hkp); (try clear hy0)) | ((with_reducible refine gate_callee (f := 45) rfl ?_); refine goesS (some 107) Tryd.func45 #[.slice Ao85 x4_1.length co85] ?_; (with_reducible refine (slices_Compact_int64_int64.calls (fun k_ => some k_ = (.slice Ao85 x4_1.length co85 : Value).ownBlock) (.slice Ao85 x4_1.length co85) t318 t319 w _ ?side1 ?side2 A84.out).mono ?_); (case side1 => repeat (first | (with_reducible first | exact HB.out | apply below_alloc | apply pw_below_drewN | apply below_drew1) | exact HB.out)); (case side2 => exact Kd.R_tight rfl HO_4.out); rintro e w87 ⟨v320, rfl, ho0, hb, hkp⟩; refine ⟨_, rfl, ?_⟩; have n0_ := Aside0.mk (Kd.R_mono (ok' := fun k_ => some k_ ≠ (v320 : Value).ownBlock) (Kd.R_keptB (HO_43.out) hkp (fun k_ hk_ hs_ => (hk_) hs_)) (fun k_ hk_ => fun e_ => Or.elim (ho0.1 k_ e_.symm) (fun hs_ => hk_.2.1 hs_) (fun hn_ => Nat.not_le.2 hk_.2.2 hn_))); have n1_ := Aside0.mk (Kd.R_mono (ok' := fun k_ => some k_ ≠ (.slice Ao66 t284.length co66 : Value).ownBlock) ho0 (fun k_ hk_ => Or.elim hk_ (fun hs_ => fun e_ => (((HO_43.out).1 k_ e_.symm)) hs_) (fun hn_ => (Kd.fresh' (Kd.R_lt (rP HO_43.out)) k_ hn_)))); have n2_ := Aside0.mk (hb); clear HO_43 HB HO_4; have HO_43 := n0_; have HO321 := n1_; have HB := n2_; clear n0_ n1_ n2_; (try clear hb); (try clear hkp); (try clear ho0)))
           go_ret
           exact ⟨_, eW, by (with_reducible repeat (first | apply Kd.R_alloc | apply Kd.R_drewN | apply Kd.R_drew)); exact Kd.R_mono HO321.out (fun _ hk => trivial), bW⟩
     ·rw [if_neg c12] at H
      exact absurd H (by simp)
 ·rw [if_neg c2] at H
  exact absurd H (by simp)
end Go.Proofs.YtcbcfkmeemenkaaDoor.P
end M0
