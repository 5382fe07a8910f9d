import Derived.ArgAppend
import Derived.Below
import Derived.BigQuiet
import Derived.Deep.AppendLies
import Derived.Deep.CutBlock
import Derived.Deep.DeepCutAuto
import Derived.Deep.Draws
import Derived.Deep.LoopGhost
import Derived.Deep.OwnRows
import Derived.Deep.QuietTactic
import Derived.Deep.RegionHeld3
import Derived.KernelRfl
import Derived.Laws.BitsLemmas
import Derived.Laws.BytesArg
import Derived.Laws.IdiomCopy
import Derived.Laws.MakeOwn
import Derived.Laws.OwnMore
import Derived.Laws.Rows
import Derived.Laws.Slices
import Derived.Laws.StructEq
import Derived.Lib.AppendStr
import Derived.Lib.ConvBytes
import Derived.Lib.SliceRun
import Derived.Maps.AppendAt
import Derived.OrdersHeld
import Derived.OwnWalk
import Derived.RowKit
import Derived.RowKit3
import Derived.Shelf.Abstract
import Derived.Shelf.Spec.TrailingZeros
import Derived.Tactics
import Derived.Test.YtcbcfkmeemenkaaDoorProg
import Derived.WalkKit
import Derived.WideLaws
import Derived.Test.YtcbcfkmeemenkaaDoorCFnExactContentsOf2
import Derived.Test.YtcbcfkmeemenkaaDoorCFnExactContentsOf4
section M0
namespace Go.Proofs.YtcbcfkmeemenkaaDoor.P
open Go.RowKit Go.Proofs.YtcbcfkmeemenkaaDoor.Sh Go.Proofs.YtcbcfkmeemenkaaDoorW.PrintWords Go.Proofs.YtcbcfkmeemenkaaDoorW.PrintLast Go.Proofs.YtcbcfkmeemenkaaDoorW.PrintMore
attribute [local go_sem] max2_int min2_int max_two min_two max_three min_three max_four min_four   -- for this text's walks alone
set_option linter.unusedVariables false
set_option linter.unusedSimpArgs false
/-! ### impl_IsAlphabet: function 37 -/
mutual
def impl_IsAlphabet.j0 : Nat → Bool → Int → List Int → Option (Bool)
 | 0, _, _, _ => none
 | k + 1, x22, x217000, x217001 => if x22 = true then (some false) else ((impl_converse.f k x217001).bind fun t220 => (impl_IsAlphabet.l0 k t220 (t220.length : Int) 0 x217000 x217001))
def impl_IsAlphabet.l0 : Nat → List Int → Int → Int → Int → List Int → Option (Bool)
 | 0, _, _, _, _, _ => none
 | k + 1, x25, x26, x27, x217000, x217001 => if x27 < x26 then (if 0 ≤ x27 then (if x27 < (x25.length : Int) then (if x27 < (x217001.length : Int) then (if (rd x25 x27) = (rd x217001 x27) then ((impl_has.f (rd x25 x27) x27).bind fun t225 => (if t225 = true then (impl_IsAlphabet.l0 k x25 x26 (wrap64 (x27 + 1)) x217000 x217001) else (some false))) else (some false)) else (none)) else (none)) else (none)) else (some true)
end
def impl_IsAlphabet.f (k : Nat) (a0_0 : Int) (l0_1 : List Int) : Option (Bool) := (impl_inRange.f a0_0 0 8).bind fun t217 => (if t217 = true then ((impl_length_int64.f l0_1).bind fun t218 => (if t218 = a0_0 then ((impl_IsRelation.f l0_1).bind fun t219 => (impl_IsAlphabet.j0 k (!t219) a0_0 l0_1)) else (impl_IsAlphabet.j0 k true a0_0 l0_1))) else (impl_IsAlphabet.j0 k true a0_0 l0_1))
def impl_IsAlphabet.T1 : Bool × List (List Nat × List Nat) := (true, [([], []), ([0], [0]), ([1], [1]), ([2], [2]), ([3, 2], [3]), ([4], [4]), ([5, 4], [4, 5]), ([6, 4, 4], [4, 6]), ([4], [4]), ([8, 4], [4, 8]), ([7, 9, 4], [4, 7, 9]), ([4, 10], [4, 10]), ([11, 7], [11]), ([12], [12]), ([13, 12], [12, 13]), ([14, 12, 12], [12, 14]), ([15, 12], [12, 15]), ([12, 16], [12, 16])])
def impl_IsAlphabet.B1 : List Nat := [0, 1, 3, 7, 15, 31, 63, 127, 31, 287, 1023, 2047, 4095, 8191, 16383, 32767, 65535, 131071]
theorem impl_IsAlphabet.tab1 : rtab .any (opsOf Tryd.f37 1) = impl_IsAlphabet.T1 := by kernel_rfl
theorem impl_IsAlphabet.bits1 : waitsOk impl_IsAlphabet.T1.2 impl_IsAlphabet.B1 = true := by kernel_rfl
set_option maxHeartbeats 8000000 in
set_option maxRecDepth 100000 in
theorem impl_IsAlphabet.calls (k : Nat) (a0_0 : Int) (A0_1 : Option Addr) (c0_1 : Nat) (l0_1 : List Int) (r : Bool) (w : World) (hr0_1 : Kd.C (Kd.int .i64) w A0_1 l0_1.length l0_1) (hc0_1 : l0_1.length ≤ c0_1) (h : impl_IsAlphabet.f k a0_0 l0_1 = some r) (hTab : Tab w) :
  Calls Tryd.prog 37 #[.agg #[.int .i64 a0_0, .slice A0_1 l0_1.length c0_1]] w fun e w' => e = .returned (.bool r) ∧ Below w.heap.size w w' := by
 have HTab := Aside0.mk hTab
 clear hTab
 have hu30 := Tryd.underlying30
 have HR0_1 := Aside0.mk hr0_1
 have HC0_1 := Aside0.mk hc0_1
 clear hr0_1 hc0_1
 have HB := Aside0.mk (Below.refl w.heap.size w)
 have H : ((impl_inRange.f a0_0 0 8).bind fun t217 => (if t217 = true then ((impl_length_int64.f l0_1).bind fun t218 => (if t218 = a0_0 then ((impl_IsRelation.f l0_1).bind fun t219 => (impl_IsAlphabet.j0 k (!t219) a0_0 l0_1)) else (impl_IsAlphabet.j0 k true a0_0 l0_1))) else (impl_IsAlphabet.j0 k true a0_0 l0_1))) = some r := h
 clear h
 have HC2 := Aside0.mk H
 clear H
 go_enter Tryd.func37, Tryd.ntmps37
 go_upto_region 1 with (first | ((with_reducible refine gate_dst (N := 1) rfl ?_); refine boxS (N := 1) (cs := #[.int .i64 a0_0, .slice A0_1 l0_1.length c0_1]) (t := 30) ?_; intro gb216 hg w3 hbox hb; have n0_ := Aside0.mk (below_step (bW) hb); have n1_ := Aside0.mk (hbox); have n2_ := geW (w := w) hg; have n3_ := geW (w := w) hg; clear HB; have HB := n0_; have BK216 := n1_; have GW216 := n2_; have GE216 := n3_; clear n0_ n1_ n2_ n3_ hb hbox hg))
 (try simp only [Act.put, List.setIfInBounds_toArray, List.set_cons_zero, List.set_cons_succ])
 go_cut [22] (fun v22 wc => ∃ (kq : Nat) (x22_1 : Bool), v22 = .bool x22_1 ∧ Aside0 (impl_IsAlphabet.j0 kq x22_1 a0_0 l0_1 = some r) ∧ Aside0 (kq ≤ k) ∧ Aside0 (wc.heap[gb216]? = some (.cells #[.int .i64 a0_0, (.slice A0_1 l0_1.length c0_1)] 30 (0, 0))) ∧ Aside0 (Below w.heap.size w wc))
 case first =>
  have H := HC2.out
  clear HC2
  replace H := Option.bind_eq_some_iff.mp H
  obtain ⟨t217, A40, H⟩ := H
  replace H : (if t217 = true then ((impl_length_int64.f l0_1).bind fun t218 => (if t218 = a0_0 then ((impl_IsRelation.f l0_1).bind fun t219 => (impl_IsAlphabet.j0 k (!t219) a0_0 l0_1)) else (impl_IsAlphabet.j0 k true a0_0 l0_1))) else (impl_IsAlphabet.j0 k true a0_0 l0_1)) = some r := H
  have A4 := Aside0.mk A40
  clear A40
  by_cases c5 : t217 = true
  ·subst c5
   have H1 : ((impl_length_int64.f l0_1).bind fun t218 => (if t218 = a0_0 then ((impl_IsRelation.f l0_1).bind fun t219 => (impl_IsAlphabet.j0 k (!t219) a0_0 l0_1)) else (impl_IsAlphabet.j0 k true a0_0 l0_1))) = some r := by rw [if_pos rfl] at H; exact H
   clear H
   have H := H1
   clear H1
   replace H := Option.bind_eq_some_iff.mp H
   obtain ⟨t218, A60, H⟩ := H
   replace H : (if t218 = a0_0 then ((impl_IsRelation.f l0_1).bind fun t219 => (impl_IsAlphabet.j0 k (!t219) a0_0 l0_1)) else (impl_IsAlphabet.j0 k true a0_0 l0_1)) = some r := H
   have A6 := Aside0.mk A60
   clear A60
   by_cases c7 : t218 = a0_0
   ·rw [if_pos c7] at H
    have c7b0 : (t218 == a0_0) = true := beq_iff_eq.mpr c7
    have c7b1 : (t218 != a0_0) = false := bne_eq_false_iff_eq.mpr c7
    clear c7
    (first | rw [c7b0] | (simp only [i64_w, i32_w]; rw [c7b0]) | skip)
    replace H := Option.bind_eq_some_iff.mp H
    obtain ⟨t219, A80, H⟩ := H
    replace H : (impl_IsAlphabet.j0 k (!t219) a0_0 l0_1) = some r := H
    have A8 := Aside0.mk A80
    clear A80
    have H' := Aside0.mk H
    clear H
    try go_wp2
    have n0_ := Aside0.mk (blk_drew BK216.out)
    have n1_ := Aside0.mk (below_drew1 HB.out)
    clear BK216 HB; have BK216 := n0_; have HB := n1_; clear n0_ n1_
    refine start_ (n := 18) (S := fun w' => w'.cell? ⟨gb216, 0, none⟩ = some (.int .i64 a0_0) ∧ w'.cell? ⟨gb216, 1, none⟩ = some (.slice A0_1 l0_1.length c0_1)) (ds := []) #[false, false, false, false, false, false, false, false, false, false, false, false, false, false, false, false, false, false] (by kernel_rfl) rfl rfl ⟨(blk_cell BK216.out 0).trans rfl, (blk_cell BK216.out 1).trans rfl⟩ (fun hHeld => ?_); refine with_tabW impl_IsAlphabet.tab1 impl_IsAlphabet.bits1 (fun HT_ HW_ => ?_)
    generalize w3.drew = w9 at BK216 HB hHeld ⊢
    refine pureS (i := 0) (N := some 5) (any_of HT_.out (by kernel_rfl)) ?_
    refine takeS (i := 1) (N := some 6) (take_ofW HT_.out HW_.out (by kernel_rfl)) hHeld ?_
    refine one_ (i := 2) (N := some 7) #[true, true, true, false, false, false, false, false, false, false, false, false, false, false, false, false, false, false] rfl rfl (one_of HT_.out (by kernel_rfl)) (by decide) (fun K hK => ?_)
    refine goes_ Tryd.func50 (by kernel_rfl) rfl #[.int .i64 a0_0, .int .i64 0, .int .i64 8] (by rfl) rfl rfl (by (try simp only [List.map_toArray, List.map_cons, List.map_nil]); first | done | rfl | (simp only [List.length_drop, List.length_take]; rfl)) ?_
    with_reducible refine (impl_inRange.calls a0_0 0 8 true _ A4.out).mono ?_
    rintro e w' ⟨rfl, ⟨nd, rfl⟩⟩
    refine ⟨_, rfl, ?_⟩
    refine hK.out _ _ ⟨(blk_cell BK216.out 0).trans rfl, (blk_cell BK216.out 1).trans rfl⟩ (fun hHeld => ?_)
    clear hK K
    refine norm_ (a' := ?_) ?_ ?_
    rotate_left
    ·show Act.put _ (some 7) _ = _
     simp only [Act.put, List.setIfInBounds_toArray, List.set_cons_zero, List.set_cons_succ, i64_w, i32_w]
     rfl
    refine pureS (i := 3) (N := some 8) (any_of HT_.out (by kernel_rfl)) ?_
    refine pureS (i := 4) (N := some 9) (any_of HT_.out (by kernel_rfl)) ?_
    refine pureS (i := 5) (N := some 10) (any_of HT_.out (by kernel_rfl)) ?_
    refine pureS (i := 8) (N := some 13) (any_of HT_.out (by kernel_rfl)) ?_
    refine takeS (i := 6) (N := some 11) (take_ofW HT_.out HW_.out (by kernel_rfl)) hHeld ?_
    refine takeS (i := 9) (N := some 14) (take_ofW HT_.out HW_.out (by kernel_rfl)) hHeld ?_
    refine one_ (i := 7) (N := some 12) #[true, true, true, true, true, true, true, true, true, true, false, false, false, false, false, false, false, false] rfl rfl (one_of HT_.out (by kernel_rfl)) (by decide) (fun K hK => ?_)
    refine goes_ Tryd.func51 (by kernel_rfl) rfl #[.slice A0_1 l0_1.length c0_1] (by rfl) rfl rfl (by (try simp only [List.map_toArray, List.map_cons, List.map_nil]); first | done | rfl | (simp only [List.length_drop, List.length_take]; rfl)) ?_
    with_reducible refine (impl_length_int64.calls _ _ l0_1 t218 _ ?side1 ?side2 A6.out).mono ?_
    (case side1 => exact cP (Kd.C_below HR0_1.out (bW)))
    (case side2 => exact HC0_1.out)
    rintro e w' ⟨rfl, ⟨nd, rfl⟩⟩
    refine ⟨_, rfl, ?_⟩
    refine hK.out _ _ ⟨(blk_cell BK216.out 0).trans rfl, (blk_cell BK216.out 1).trans rfl⟩ (fun hHeld => ?_)
    clear hK K
    refine norm_ (a' := ?_) ?_ ?_
    rotate_left
    ·show Act.put _ (some 12) _ = _
     simp only [Act.put, List.setIfInBounds_toArray, List.set_cons_zero, List.set_cons_succ, i64_w, i32_w]
     rfl
    refine pureS (i := 10) (N := some 15) (any_of HT_.out (by kernel_rfl)) ?_
    refine pureS (i := 11) (N := some 16) (any_of HT_.out (by kernel_rfl)) ?_
    refine pureS (i := 12) (N := some 17) (any_of HT_.out (by kernel_rfl)) ?_
    refine pureS (i := 13) (N := some 18) (any_of HT_.out (by kernel_rfl)) ?_
    refine takeS (i := 14) (N := some 19) (take_ofW HT_.out HW_.out (by kernel_rfl)) hHeld ?_
    refine one_ (i := 15) (N := some 20) #[true, true, true, true, true, true, true, true, true, true, true, true, true, true, true, true, false, false] rfl rfl (one_of HT_.out (by kernel_rfl)) (by decide) (fun K hK => ?_)
    refine goes_ Tryd.func52 (by kernel_rfl) rfl #[.slice A0_1 l0_1.length c0_1] (by rfl) rfl rfl (by (try simp only [List.map_toArray, List.map_cons, List.map_nil]); first | done | rfl | (simp only [List.length_drop, List.length_take]; rfl)) ?_
    with_reducible refine (impl_IsRelation.calls _ _ l0_1 t219 _ ?side1 ?side2 A8.out).mono ?_
    (case side1 => exact cP (Kd.C_below HR0_1.out (bW)))
    (case side2 => exact HC0_1.out)
    rintro e w10 ⟨rfl, hb⟩
    refine ⟨_, rfl, ?_⟩
    have n0_ := Aside0.mk (blkB BK216.out hb)
    have n1_ := Aside0.mk (below_step (bW) hb)
    clear BK216 HB; have BK216 := n0_; have HB := n1_; clear n0_ n1_
    (try clear hb)
    (try clear hb2)
    (try clear hk)
    (try clear hi)
    refine hK.out _ _ ⟨(blk_cell BK216.out 0).trans rfl, (blk_cell BK216.out 1).trans rfl⟩ (fun hHeld => ?_)
    clear hK K
    refine norm_ (a' := ?_) ?_ ?_
    rotate_left
    ·show Act.put _ (some 20) _ = _
     simp only [Act.put, List.setIfInBounds_toArray, List.set_cons_zero, List.set_cons_succ, i64_w, i32_w]
     rfl
    refine pureS (i := 16) (N := some 21) (any_of HT_.out (by kernel_rfl)) ?_
    refine pureS (i := 17) (N := some 22) (any_of HT_.out (by kernel_rfl)) ?_
    refine done_ (done_of HT_.out (by kernel_rfl)) ?_
    try go_wp2
    go_meet
    case rel => exact ⟨_, (!t219), (eW), H', ⟨by first | omega | exact Nat.le_refl _⟩, ⟨(bP BK216.out)⟩, ⟨bW⟩⟩
   ·rw [if_neg c7] at H
    have c7b0 : (t218 == a0_0) = false := beq_eq_false_iff_ne.mpr c7
    have c7b1 : (t218 != a0_0) = true := bne_iff_ne.mpr c7
    (first | rw [c7b0] | (simp only [i64_w, i32_w]; rw [c7b0]) | skip)
    have H' := Aside0.mk H
    clear H
    try go_wp2
    have n0_ := Aside0.mk (blk_drew BK216.out)
    have n1_ := Aside0.mk (below_drew1 HB.out)
    clear BK216 HB; have BK216 := n0_; have HB := n1_; clear n0_ n1_
    refine start_ (n := 18) (S := fun w' => w'.cell? ⟨gb216, 0, none⟩ = some (.int .i64 a0_0) ∧ w'.cell? ⟨gb216, 1, none⟩ = some (.slice A0_1 l0_1.length c0_1)) (ds := []) #[false, false, false, false, false, false, false, false, false, false, false, false, false, false, false, false, false, false] (by kernel_rfl) rfl rfl ⟨(blk_cell BK216.out 0).trans rfl, (blk_cell BK216.out 1).trans rfl⟩ (fun hHeld => ?_); refine with_tabW impl_IsAlphabet.tab1 impl_IsAlphabet.bits1 (fun HT_ HW_ => ?_)
    generalize w3.drew = w11 at BK216 HB hHeld ⊢
    refine pureS (i := 0) (N := some 5) (any_of HT_.out (by kernel_rfl)) ?_
    refine takeS (i := 1) (N := some 6) (take_ofW HT_.out HW_.out (by kernel_rfl)) hHeld ?_
    refine one_ (i := 2) (N := some 7) #[true, true, true, false, false, false, false, false, false, false, false, false, false, false, false, false, false, false] rfl rfl (one_of HT_.out (by kernel_rfl)) (by decide) (fun K hK => ?_)
    refine goes_ Tryd.func50 (by kernel_rfl) rfl #[.int .i64 a0_0, .int .i64 0, .int .i64 8] (by rfl) rfl rfl (by (try simp only [List.map_toArray, List.map_cons, List.map_nil]); first | done | rfl | (simp only [List.length_drop, List.length_take]; rfl)) ?_
    with_reducible refine (impl_inRange.calls a0_0 0 8 true _ A4.out).mono ?_
    rintro e w' ⟨rfl, ⟨nd, rfl⟩⟩
    refine ⟨_, rfl, ?_⟩
    refine hK.out _ _ ⟨(blk_cell BK216.out 0).trans rfl, (blk_cell BK216.out 1).trans rfl⟩ (fun hHeld => ?_)
    clear hK K
    refine norm_ (a' := ?_) ?_ ?_
    rotate_left
    ·show Act.put _ (some 7) _ = _
     simp only [Act.put, List.setIfInBounds_toArray, List.set_cons_zero, List.set_cons_succ, i64_w, i32_w]
     rfl
    refine pureS (i := 3) (N := some 8) (any_of HT_.out (by kernel_rfl)) ?_
    refine pureS (i := 4) (N := some 9) (any_of HT_.out (by kernel_rfl)) ?_
    refine pureS (i := 5) (N := some 10) (any_of HT_.out (by kernel_rfl)) ?_
    refine pureS (i := 8) (N := some 13) (any_of HT_.out (by kernel_rfl)) ?_
    refine takeS (i := 6) (N := some 11) (take_ofW HT_.out HW_.out (by kernel_rfl)) hHeld ?_
    refine takeS (i := 9) (N := some 14) (take_ofW HT_.out HW_.out (by kernel_rfl)) hHeld ?_
    refine one_ (i := 7) (N := some 12) #[true, true, true, true, true, true, true, true, true, true, false, false, false, false, false, false, false, false] rfl rfl (one_of HT_.out (by kernel_rfl)) (by decide) (fun K hK => ?_)
    refine goes_ Tryd.func51 (by kernel_rfl) rfl #[.slice A0_1 l0_1.length c0_1] (by rfl) rfl rfl (by (try simp only [List.map_toArray, List.map_cons, List.map_nil]); first | done | rfl | (simp only [List.length_drop, List.length_take]; rfl)) ?_
    with_reducible refine (impl_length_int64.calls _ _ l0_1 t218 _ ?side1 ?side2 A6.out).mono ?_
    (case side1 => exact cP (Kd.C_below HR0_1.out (bW)))
    (case side2 => exact HC0_1.out)
    rintro e w' ⟨rfl, ⟨nd, rfl⟩⟩
    refine ⟨_, rfl, ?_⟩
    refine hK.out _ _ ⟨(blk_cell BK216.out 0).trans rfl, (blk_cell BK216.out 1).trans rfl⟩ (fun hHeld => ?_)
    clear hK K
    refine norm_ (a' := ?_) ?_ ?_
    rotate_left
    ·show Act.put _ (some 12) _ = _
     simp only [Act.put, List.setIfInBounds_toArray, List.set_cons_zero, List.set_cons_succ, i64_w, i32_w]
     rfl
    refine pureS (i := 10) (N := some 15) (any_of HT_.out (by kernel_rfl)) ?_
    refine pureS (i := 11) (N := some 16) (any_of HT_.out (by kernel_rfl)) ?_
    refine pureS (i := 12) (N := some 17) (any_of HT_.out (by kernel_rfl)) ?_
    refine pureU (i := 13) (N := some 18) (any_of HT_.out (by kernel_rfl)) ?_
    refine pureU (i := 14) (N := some 19) (any_of HT_.out (by kernel_rfl)) ?_
    refine pureU (i := 15) (N := some 20) (any_of HT_.out (by kernel_rfl)) ?_
    refine pureU (i := 16) (N := some 21) (any_of HT_.out (by kernel_rfl)) ?_
    refine pureS (i := 17) (N := some 22) (any_of HT_.out (by kernel_rfl)) ?_
    refine done_ (done_of HT_.out (by kernel_rfl)) ?_
    try go_wp2
    go_meet
    case rel => exact ⟨_, (true), (eW), H', ⟨by first | omega | exact Nat.le_refl _⟩, ⟨(bP BK216.out)⟩, ⟨bW⟩⟩
  ·replace c5 := Bool.eq_false_iff.mpr c5
   subst c5
   have H1 : (impl_IsAlphabet.j0 k true a0_0 l0_1) = some r := by rw [if_neg (show ¬ (false = true) by decide)] at H; exact H
   clear H
   have H := H1
   clear H1
   have H' := Aside0.mk H
   clear H
   try go_wp2
   have n0_ := Aside0.mk (blk_drew BK216.out)
   have n1_ := Aside0.mk (below_drew1 HB.out)
   clear BK216 HB; have BK216 := n0_; have HB := n1_; clear n0_ n1_
   refine start_ (n := 18) (S := fun w' => w'.cell? ⟨gb216, 0, none⟩ = some (.int .i64 a0_0) ∧ w'.cell? ⟨gb216, 1, none⟩ = some (.slice A0_1 l0_1.length c0_1)) (ds := []) #[false, false, false, false, false, false, false, false, false, false, false, false, false, false, false, false, false, false] (by kernel_rfl) rfl rfl ⟨(blk_cell BK216.out 0).trans rfl, (blk_cell BK216.out 1).trans rfl⟩ (fun hHeld => ?_); refine with_tabW impl_IsAlphabet.tab1 impl_IsAlphabet.bits1 (fun HT_ HW_ => ?_)
   generalize w3.drew = w12 at BK216 HB hHeld ⊢
   refine pureS (i := 0) (N := some 5) (any_of HT_.out (by kernel_rfl)) ?_
   refine takeS (i := 1) (N := some 6) (take_ofW HT_.out HW_.out (by kernel_rfl)) hHeld ?_
   refine one_ (i := 2) (N := some 7) #[true, true, true, false, false, false, false, false, false, false, false, false, false, false, false, false, false, false] rfl rfl (one_of HT_.out (by kernel_rfl)) (by decide) (fun K hK => ?_)
   refine goes_ Tryd.func50 (by kernel_rfl) rfl #[.int .i64 a0_0, .int .i64 0, .int .i64 8] (by rfl) rfl rfl (by (try simp only [List.map_toArray, List.map_cons, List.map_nil]); first | done | rfl | (simp only [List.length_drop, List.length_take]; rfl)) ?_
   with_reducible refine (impl_inRange.calls a0_0 0 8 false _ A4.out).mono ?_
   rintro e w' ⟨rfl, ⟨nd, rfl⟩⟩
   refine ⟨_, rfl, ?_⟩
   refine hK.out _ _ ⟨(blk_cell BK216.out 0).trans rfl, (blk_cell BK216.out 1).trans rfl⟩ (fun hHeld => ?_)
   clear hK K
   refine norm_ (a' := ?_) ?_ ?_
   rotate_left
   ·show Act.put _ (some 7) _ = _
    simp only [Act.put, List.setIfInBounds_toArray, List.set_cons_zero, List.set_cons_succ, i64_w, i32_w]
    rfl
   refine pureS (i := 3) (N := some 8) (any_of HT_.out (by kernel_rfl)) ?_
   refine pureS (i := 4) (N := some 9) (any_of HT_.out (by kernel_rfl)) ?_
   refine pureU (i := 5) (N := some 10) (any_of HT_.out (by kernel_rfl)) ?_
   refine pureU (i := 6) (N := some 11) (any_of HT_.out (by kernel_rfl)) ?_
   refine pureU (i := 7) (N := some 12) (any_of HT_.out (by kernel_rfl)) ?_
   refine pureU (i := 8) (N := some 13) (any_of HT_.out (by kernel_rfl)) ?_
   refine pureU (i := 9) (N := some 14) (any_of HT_.out (by kernel_rfl)) ?_
   refine pureU (i := 10) (N := some 15) (any_of HT_.out (by kernel_rfl)) ?_
   refine pureS (i := 11) (N := some 16) (any_of HT_.out (by kernel_rfl)) ?_
   refine pureS (i := 12) (N := some 17) (any_of HT_.out (by kernel_rfl)) ?_
   refine pureU (i := 13) (N := some 18) (any_of HT_.out (by kernel_rfl)) ?_
   refine pureU (i := 14) (N := some 19) (any_of HT_.out (by kernel_rfl)) ?_
   refine pureU (i := 15) (N := some 20) (any_of HT_.out (by kernel_rfl)) ?_
   refine pureU (i := 16) (N := some 21) (any_of HT_.out (by kernel_rfl)) ?_
   refine pureS (i := 17) (N := some 22) (any_of HT_.out (by kernel_rfl)) ?_
   refine done_ (done_of HT_.out (by kernel_rfl)) ?_
   try go_wp2
   go_meet
   case rel => exact ⟨_, (true), (eW), H', ⟨by first | omega | exact Nat.le_refl _⟩, ⟨(bP BK216.out)⟩, ⟨bW⟩⟩
 case rest =>
  clear HC2
  try clear p2
  try clear c3
  try clear c5
  try clear c7
  try clear c7b0
  try clear c7b1
  obtain ⟨kq, x22_1, rfl, HA, HJ1, BK216, HB⟩ := hcut
  cases kq with
  | zero => exact absurd HA.out (by simp [impl_IsAlphabet.j0])
  | succ kj1 =>
   have H := HA.out
   clear HA
   simp only [impl_IsAlphabet.j0] at H
   by_cases c13 : x22_1 = true
   ·subst c13
    have H1 : (some false) = some r := by rw [if_pos rfl] at H; exact H
    clear H
    have H := H1
    clear H1
    obtain rfl := Option.some.inj H
    go_wp2
    go_ret
    exact ⟨eW, bW⟩
   ·replace c13 := Bool.eq_false_iff.mpr c13
    subst c13
    have H1 : ((impl_converse.f kj1 l0_1).bind fun t220 => (impl_IsAlphabet.l0 kj1 t220 (t220.length : Int) 0 a0_0 l0_1)) = some r := by rw [if_neg (show ¬ (false = true) by decide)] at H; exact H
    clear H
    have H := H1
    clear H1
    replace H := Option.bind_eq_some_iff.mp H
    obtain ⟨t220, A140, H⟩ := H
    replace H : (impl_IsAlphabet.l0 kj1 t220 (t220.length : Int) 0 a0_0 l0_1) = some r := H
    have A14 := Aside0.mk A140
    clear A140
    have H' := Aside0.mk H
    clear H
    have hcz15_0 : wc.cell? ⟨gb216, 0, none⟩ = some (.int .i64 a0_0) := (blk_cell BK216.out 0).trans rfl
    have hcz15_1 : wc.cell? ⟨gb216, 1, none⟩ = some (.slice A0_1 l0_1.length c0_1) := (blk_cell BK216.out 1).trans rfl
    have hfz15_0 := blk_frozen BK216.out 0
    have hfz15_1 := blk_frozen BK216.out 1
    go_wp2_with (first | ((with_reducible refine gate_callee (f := 53) rfl ?_); refine goesS (some 25) Tryd.func53 #[.slice A0_1 l0_1.length c0_1] ?_; (with_reducible refine (impl_converse.calls kj1 _ _ l0_1 t220 _ ?side1 ?side2 A14.out (tabW HTab.out)).mono ?_); (case side1 => exact cP (Kd.C_below HR0_1.out HB.out)); (case side2 => exact HC0_1.out); rintro e w16 ⟨v221, rfl, ho0, hb⟩; refine ⟨_, rfl, ?_⟩; have n0_ := Aside0.mk (Kd.R_lower ho0 (below_size (bW))); have n1_ := Aside0.mk (blkB BK216.out hb); have n2_ := Aside0.mk (below_step (bW) hb); clear BK216 HB; have HO222 := n0_; have BK216 := n1_; have HB := n2_; clear n0_ n1_ n2_; (try clear hb); (try clear hb2); (try clear hk); (try clear hi); (try clear ho0); obtain ⟨Ao17, co17, eo17⟩ := Kd.R_slice HO222.out; subst eo17))
    go_loopg [27] kj1 (fun kq v27 w' => ∃ (x27_2 : Int), v27 = .int .i64 x27_2 ∧ Aside0 (impl_IsAlphabet.l0 kq t220 (t220.length : Int) x27_2 a0_0 l0_1 = some r) ∧ Aside0 (kq ≤ kj1) ∧ Aside0 (Kd.R (Kd.int .i64) 2 w' w.heap.size (fun _ => True) (.slice Ao17 t220.length co17) t220) ∧ Aside0 (w'.heap[gb216]? = some (.cells #[.int .i64 a0_0, (.slice A0_1 l0_1.length c0_1)] 30 (0, 0))) ∧ Aside0 (Below w.heap.size w w'))
    case atStart => exact ⟨(0), (eW), H', ⟨Nat.le_refl _⟩, ⟨(rP HO222.out)⟩, ⟨(bP BK216.out)⟩, ⟨bW⟩⟩
    case round =>
     clear H'
     try clear c1
     try clear p2
     try clear c3
     try clear c5
     try clear c7
     try clear c7b0
     try clear c7b1
     try clear c13
     try clear hcz15_0
     try clear hcz15_1
     try clear hfz15_0
     try clear hfz15_1
     try clear p2
     obtain ⟨x27_2, rfl, HA, HK2, HO_25, BK216, HB⟩ := hrel
     cases gk with
     | zero => exact absurd HA.out (by simp [impl_IsAlphabet.l0])
     | succ k2 =>
      have H := HA.out
      clear HA
      simp only [impl_IsAlphabet.l0] at H
      by_cases c18 : x27_2 < (t220.length : Int)
      ·rw [if_pos c18] at H
       have c18b0 : decide (x27_2 < (t220.length : Int)) = true := decide_eq_true c18
       clear c18
       by_cases c19 : 0 ≤ x27_2
       ·rw [if_pos c19] at H
        have c19b0 : decide (0 ≤ x27_2) = true := decide_eq_true c19
        clear c19
        by_cases c20 : x27_2 < (t220.length : Int)
        ·rw [if_pos c20] at H
         have c20b0 : decide (x27_2 < (t220.length : Int)) = true := decide_eq_true c20
         clear c20
         by_cases c21 : x27_2 < (l0_1.length : Int)
         ·rw [if_pos c21] at H
          have c21b0 : decide (x27_2 < (l0_1.length : Int)) = true := decide_eq_true c21
          clear c21
          by_cases c22 : (rd t220 x27_2) = (rd l0_1 x27_2)
          ·rw [if_pos c22] at H
           have c22b0 : ((rd t220 x27_2) == (rd l0_1 x27_2)) = true := beq_iff_eq.mpr c22
           have c22b1 : ((rd t220 x27_2) != (rd l0_1 x27_2)) = false := bne_eq_false_iff_eq.mpr c22
           clear c22
           replace H := Option.bind_eq_some_iff.mp H
           obtain ⟨t225, A230, H⟩ := H
           replace H : (if t225 = true then (impl_IsAlphabet.l0 k2 t220 (t220.length : Int) (wrap64 (x27_2 + 1)) a0_0 l0_1) else (some false)) = some r := H
           have A23 := Aside0.mk A230
           clear A230
           by_cases c24 : t225 = true
           ·subst c24
            have H1 : (impl_IsAlphabet.l0 k2 t220 (t220.length : Int) (wrap64 (x27_2 + 1)) a0_0 l0_1) = some r := by rw [if_pos rfl] at H; exact H
            clear H
            have H := H1
            clear H1
            have H' := Aside0.mk H
            clear H
            have p223 : 0 ≤ (x27_2 : Int) := ofD
            have q223 : x27_2 < (t220.length : Int) := ofD
            obtain ⟨ad223, e223, hx223_0⟩ := Kd.at_int (Kd.R_reads' HO_25.out).2.2 x27_2 p223 q223
            cases e223
            replace p223 := eq_true p223
            replace q223 := eq_true q223
            have hcz25_0 : wr.cell? ⟨gb216, 0, none⟩ = some (.int .i64 a0_0) := (blk_cell BK216.out 0).trans rfl
            have hcz25_1 : wr.cell? ⟨gb216, 1, none⟩ = some (.slice A0_1 l0_1.length c0_1) := (blk_cell BK216.out 1).trans rfl
            have hfz25_0 := blk_frozen BK216.out 0
            have hfz25_1 := blk_frozen BK216.out 1
            have p224 : 0 ≤ (x27_2 : Int) := ofD
            have q224 : x27_2 < (l0_1.length : Int) := ofD
            obtain ⟨ad224, e224, hx224_0⟩ := Kd.at_int HR0_1.out x27_2 p224 q224
            cases e224
            replace hx224_0 := (HB.out.cell (World.block_lt_of_cell? w _ hx224_0)).trans hx224_0
            replace p224 := eq_true p224
            replace q224 := eq_true q224
            go_wp2_with (first | (go_at_call 54; (with_reducible refine (impl_has.calls (rd t220 x27_2) x27_2 true _ A23.out).mono ?_); rintro e w' ⟨rfl, ⟨nd, rfl⟩⟩))
            go_roundg k2
            case measure => have := HJ1.out; have := HK2.out; omega
            case rel => exact ⟨(wrap64 (x27_2 + 1)), (eW), H', ⟨by have := HJ1.out; have := HK2.out; omega⟩, ⟨(rP HO_25.out)⟩, ⟨(bP BK216.out)⟩, ⟨bW⟩⟩
           ·replace c24 := Bool.eq_false_iff.mpr c24
            subst c24
            have H1 : (some false) = some r := by rw [if_neg (show ¬ (false = true) by decide)] at H; exact H
            clear H
            have H := H1
            clear H1
            obtain rfl := Option.some.inj H
            have p223 : 0 ≤ (x27_2 : Int) := ofD
            have q223 : x27_2 < (t220.length : Int) := ofD
            obtain ⟨ad223, e223, hx223_0⟩ := Kd.at_int (Kd.R_reads' HO_25.out).2.2 x27_2 p223 q223
            cases e223
            replace p223 := eq_true p223
            replace q223 := eq_true q223
            have hcz26_0 : wr.cell? ⟨gb216, 0, none⟩ = some (.int .i64 a0_0) := (blk_cell BK216.out 0).trans rfl
            have hcz26_1 : wr.cell? ⟨gb216, 1, none⟩ = some (.slice A0_1 l0_1.length c0_1) := (blk_cell BK216.out 1).trans rfl
            have hfz26_0 := blk_frozen BK216.out 0
            have hfz26_1 := blk_frozen BK216.out 1
            have p224 : 0 ≤ (x27_2 : Int) := ofD
            have q224 : x27_2 < (l0_1.length : Int) := ofD
            obtain ⟨ad224, e224, hx224_0⟩ := Kd.at_int HR0_1.out x27_2 p224 q224
            cases e224
            replace hx224_0 := (HB.out.cell (World.block_lt_of_cell? w _ hx224_0)).trans hx224_0
            replace p224 := eq_true p224
            replace q224 := eq_true q224
            go_wp2_with (first | (go_at_call 54; (with_reducible refine (impl_has.calls (rd t220 x27_2) x27_2 false _ A23.out).mono ?_); rintro e w' ⟨rfl, ⟨nd, rfl⟩⟩))
            go_ret
            exact ⟨eW, bW⟩
          ·rw [if_neg c22] at H
           have c22b0 : ((rd t220 x27_2) == (rd l0_1 x27_2)) = false := beq_eq_false_iff_ne.mpr c22
           have c22b1 : ((rd t220 x27_2) != (rd l0_1 x27_2)) = true := bne_iff_ne.mpr c22
           obtain rfl := Option.some.inj H
           have p223 : 0 ≤ (x27_2 : Int) := ofD
           have q223 : x27_2 < (t220.length : Int) := ofD
           obtain ⟨ad223, e223, hx223_0⟩ := Kd.at_int (Kd.R_reads' HO_25.out).2.2 x27_2 p223 q223
           cases e223
           replace p223 := eq_true p223
           replace q223 := eq_true q223
           have hcz27_0 : wr.cell? ⟨gb216, 0, none⟩ = some (.int .i64 a0_0) := (blk_cell BK216.out 0).trans rfl
           have hcz27_1 : wr.cell? ⟨gb216, 1, none⟩ = some (.slice A0_1 l0_1.length c0_1) := (blk_cell BK216.out 1).trans rfl
           have hfz27_0 := blk_frozen BK216.out 0
           have hfz27_1 := blk_frozen BK216.out 1
           have p224 : 0 ≤ (x27_2 : Int) := ofD
           have q224 : x27_2 < (l0_1.length : Int) := ofD
           obtain ⟨ad224, e224, hx224_0⟩ := Kd.at_int HR0_1.out x27_2 p224 q224
           cases e224
           replace hx224_0 := (HB.out.cell (World.block_lt_of_cell? w _ hx224_0)).trans hx224_0
           replace p224 := eq_true p224
           replace q224 := eq_true q224
           go_wp2
           go_ret
           exact ⟨eW, bW⟩
         ·rw [if_neg c21] at H
          exact absurd H (by simp)
        ·rw [if_neg c20] at H
         exact absurd H (by simp)
       ·rw [if_neg c19] at H
        exact absurd H (by simp)
      ·rw [if_neg c18] at H
       have c18b0 : decide (x27_2 < (t220.length : Int)) = false := decide_eq_false c18
       clear c18
       obtain rfl := Option.some.inj H
       go_wp2
       go_ret
       exact ⟨eW, bW⟩
/-! ### impl_isLetter: function 55 -/
def impl_isLetter.f (a0_0 : Int) (l0_1 : List Int) (a1 : Int) : Option (Bool) := (impl_inRange.f a1 0 (wrap64 (a0_0 - 1))).bind fun t227 => (some t227)
set_option maxHeartbeats 8000000 in
set_option maxRecDepth 100000 in
theorem impl_isLetter.calls (a0_0 : Int) (A0_1 : Option Addr) (c0_1 : Nat) (l0_1 : List Int) (a1 : Int) (r : Bool) (w : World) (hr0_1 : Kd.C (Kd.int .i64) w A0_1 l0_1.length l0_1) (hc0_1 : l0_1.length ≤ c0_1) (h : impl_isLetter.f a0_0 l0_1 a1 = some r) :
  Calls Tryd.prog 55 #[.agg #[.int .i64 a0_0, .slice A0_1 l0_1.length c0_1], .int .i64 a1] w fun e w' => e = .returned (.bool r) ∧ Below w.heap.size w w' := by
 have hu30 := Tryd.underlying30
 have HR0_1 := Aside0.mk hr0_1
 have HC0_1 := Aside0.mk hc0_1
 clear hr0_1 hc0_1
 have HB := Aside0.mk (Below.refl w.heap.size w)
 have H : ((impl_inRange.f a1 0 (wrap64 (a0_0 - 1))).bind fun t227 => (some t227)) = some r := h
 clear h
 replace H := Option.bind_eq_some_iff.mp H
 obtain ⟨t227, A30, H⟩ := H
 replace H : (some t227) = some r := H
 have A3 := Aside0.mk A30
 clear A30
 obtain rfl := Option.some.inj H
 go_enter Tryd.func55, Tryd.ntmps55
 go_wp2_with (first | ((with_reducible refine gate_dst (N := 2) rfl ?_); refine boxS (N := 2) (cs := #[.int .i64 a0_0, .slice A0_1 l0_1.length c0_1]) (t := 30) ?_; intro gb226 hg w4 hbox hb; have n0_ := Aside0.mk (below_step (bW) hb); have n1_ := Aside0.mk (hbox); have n2_ := geW (w := w) hg; have n3_ := geW (w := w) hg; clear HB; have HB := n0_; have BK226 := n1_; have GW226 := n2_; have GE226 := n3_; clear n0_ n1_ n2_ n3_ hb hbox hg; obtain ⟨hcz5_0, hcz5_1⟩ := cells2 BK226.out; obtain ⟨hfz5_0, hfz5_1⟩ := frz2 BK226.out) | ((with_reducible refine gate_callee (f := 50) rfl ?_); refine goesS (some 9) Tryd.func50 #[.int .i64 a1, .int .i64 0, .int .i64 (wrap64 (a0_0 - 1))] ?_; (with_reducible refine (impl_inRange.calls a1 0 (wrap64 (a0_0 - 1)) t227 _ A3.out).mono ?_); rintro e w' ⟨rfl, ⟨nd, rfl⟩⟩; refine ⟨_, rfl, ?_⟩))
 go_ret
 exact ⟨eW, bW⟩
/-! ### impl_partsIn: function 56 -/
def impl_partsIn.f (a0 : Int) : Option (Int) := if a0 = 5 then (some 1) else (if a0 = 3 then (some 2) else (if a0 = 4 then (some 2) else (some 0)))
set_option maxHeartbeats 8000000 in
set_option maxRecDepth 100000 in
theorem impl_partsIn.calls (a0 : Int) (r : Int) (w : World) (h : impl_partsIn.f a0 = some r) :
  Calls Tryd.prog 56 #[.int .i64 a0] w fun e w' => e = .returned (.int .i64 r) ∧ Drawn0 w w' := by
 have H : (if a0 = 5 then (some 1) else (if a0 = 3 then (some 2) else (if a0 = 4 then (some 2) else (some 0)))) = some r := h
 clear h
 by_cases c2 : a0 = 5
 ·rw [if_pos c2] at H
  have c2b0 : (a0 == 5) = true := beq_iff_eq.mpr c2
  have c2b1 : (a0 != 5) = false := bne_eq_false_iff_eq.mpr c2
  clear c2
  obtain rfl := Option.some.inj H
  go_enter Tryd.func56, Tryd.ntmps56
  go_wp2
  go_ret
  exact ⟨eW, by repeat (first | exact Drawn0.refl _ | apply Drawn0.step)⟩
 ·rw [if_neg c2] at H
  have c2b0 : (a0 == 5) = false := beq_eq_false_iff_ne.mpr c2
  have c2b1 : (a0 != 5) = true := bne_iff_ne.mpr c2
  by_cases c3 : a0 = 3
  ·rw [if_pos c3] at H
   have c3b0 : (a0 == 3) = true := beq_iff_eq.mpr c3
   have c3b1 : (a0 != 3) = false := bne_eq_false_iff_eq.mpr c3
   clear c3
   obtain rfl := Option.some.inj H
   go_enter Tryd.func56, Tryd.ntmps56
   go_wp2
   go_ret
   exact ⟨eW, by repeat (first | exact Drawn0.refl _ | apply Drawn0.step)⟩
  ·rw [if_neg c3] at H
   have c3b0 : (a0 == 3) = false := beq_eq_false_iff_ne.mpr c3
   have c3b1 : (a0 != 3) = true := bne_iff_ne.mpr c3
   by_cases c4 : a0 = 4
   ·rw [if_pos c4] at H
    have c4b0 : (a0 == 4) = true := beq_iff_eq.mpr c4
    have c4b1 : (a0 != 4) = false := bne_eq_false_iff_eq.mpr c4
    clear c4
    obtain rfl := Option.some.inj H
    go_enter Tryd.func56, Tryd.ntmps56
    go_wp2
    go_ret
    exact ⟨eW, by repeat (first | exact Drawn0.refl _ | apply Drawn0.step)⟩
   ·rw [if_neg c4] at H
    have c4b0 : (a0 == 4) = false := beq_eq_false_iff_ne.mpr c4
    have c4b1 : (a0 != 4) = true := bne_iff_ne.mpr c4
    obtain rfl := Option.some.inj H
    go_enter Tryd.func56, Tryd.ntmps56
    go_wp2
    go_ret
    exact ⟨eW, by repeat (first | exact Drawn0.refl _ | apply Drawn0.step)⟩
end Go.Proofs.YtcbcfkmeemenkaaDoor.P
end M0
section M1
namespace Go.Proofs.YtcbcfkmeemenkaaDoor.P
open Go.RowKit Go.Proofs.YtcbcfkmeemenkaaDoor.Sh Go.Proofs.YtcbcfkmeemenkaaDoorW.PrintWords Go.Proofs.YtcbcfkmeemenkaaDoorW.PrintLast Go.Proofs.YtcbcfkmeemenkaaDoorW.PrintMore
attribute [local go_sem] max2_int min2_int max_two min_two max_three min_three max_four min_four   -- for this text's walks alone
set_option linter.unusedVariables false
set_option linter.unusedSimpArgs false
/-! ### impl_termEnd: function 38 -/
mutual
def impl_termEnd.j0 : Nat → List (S50) → Int → Bool → Int → List Int → Option (Int)
 | 0, _, _, _, _, _ => none
 | k + 1, x1, x2, x20, x229000, x229001 => if x20 = true then (some (-1)) else (if 0 ≤ x2 then (if x2 < (x1.length : Int) then (if ((rd_T50 x1 x2).f0) = 2 then ((impl_isLetter.f x229000 x229001 ((rd_T50 x1 x2).f1)).bind fun t233 => (if t233 = true then (impl_termEnd.j1 k x1 x2 false x229000 x229001) else (impl_termEnd.j1 k x1 x2 true x229000 x229001))) else (impl_termEnd.j1 k x1 x2 (((rd_T50 x1 x2).f1) != 0) x229000 x229001)) else (none)) else (none))
def impl_termEnd.j1 : Nat → List (S50) → Int → Bool → Int → List Int → Option (Int)
 | 0, _, _, _, _, _ => none
 | k + 1, x1, x2, x52, x229000, x229001 => if x52 = true then (some (-1)) else (if 0 ≤ x2 then (if x2 < (x1.length : Int) then ((impl_partsIn.f ((rd_T50 x1 x2).f0)).bind fun t238 => (impl_termEnd.l0 k x1 (wrap64 (x2 + 1)) t238 0 x229000 x229001)) else (none)) else (none))
def impl_termEnd.l0 : Nat → List (S50) → Int → Int → Int → Int → List Int → Option (Int)
 | 0, _, _, _, _, _, _ => none
 | k + 1, x1, x7, x60, x61, x229000, x229001 => if x61 < x60 then ((impl_termEnd.f k x229000 x229001 x1 x7).bind fun t239 => (if t239 < 0 then (some (-1)) else (impl_termEnd.l0 k x1 t239 x60 (wrap64 (x61 + 1)) x229000 x229001))) else (some x7)
def impl_termEnd.f : Nat → Int → List Int → List (S50) → Int → Option (Int)
 | 0, _, _, _, _ => none
 | k + 1, a0_0, l0_1, l1, a2 => if a2 ≥ (l1.length : Int) then (impl_termEnd.j0 k l1 a2 true a0_0 l0_1) else (if 0 ≤ a2 then (if a2 < (l1.length : Int) then ((impl_inRange.f ((rd_T50 l1 a2).f0) 0 5).bind fun t230 => (impl_termEnd.j0 k l1 a2 (!t230) a0_0 l0_1)) else (none)) else (none))
end
def impl_termEnd.T3 : Bool × List (List Nat × List Nat) := (true, [([], []), ([], []), ([0, 1], [0, 1]), ([2], [2]), ([3], [3]), ([4], [4]), ([5], [5]), ([6], [6]), ([6], [6]), ([6], [6]), ([8, 9, 6], [6, 8, 9]), ([10, 6], [6, 10]), ([11, 6], [6, 11]), ([7, 12, 6, 6], [6, 7, 12]), ([13, 6], [6, 13]), ([6, 14], [6, 14]), ([15, 13], [15]), ([16], [16]), ([16], [16]), ([17, 18, 16], [16, 17, 18]), ([19, 16], [16, 19]), ([20, 16], [16, 20]), ([21, 16], [16, 21]), ([22, 16, 16], [16, 22]), ([23], [23]), ([23], [23]), ([24, 25, 23], [23, 24, 25]), ([26, 23], [23, 26]), ([27, 23], [23, 27]), ([28, 23], [23, 28]), ([23, 29, 16], [16, 23, 29]), ([16, 30], [16, 30])])
def impl_termEnd.B3 : List Nat := [0, 0, 3, 7, 15, 31, 63, 127, 127, 127, 895, 1919, 3967, 8191, 16383, 32767, 65535, 131071, 131071, 524287, 1048575, 2097151, 4194303, 8388607, 16777215, 16777215, 67108863, 134217727, 268435455, 536870911, 1073741823, 2147483647]
theorem impl_termEnd.tab3 : rtab .any (opsOf Tryd.f38 3) = impl_termEnd.T3 := by kernel_rfl
theorem impl_termEnd.bits3 : waitsOk impl_termEnd.T3.2 impl_termEnd.B3 = true := by kernel_rfl
set_option maxHeartbeats 8000000 in
set_option maxRecDepth 100000 in
theorem impl_termEnd.calls (k : Nat) : ∀ (a0_0 : Int) (A0_1 : Option Addr) (c0_1 : Nat) (l0_1 : List Int) (A1 : Option Addr) (c1 : Nat) (l1 : List (S50)) (a2 : Int) (r : Int) (w : World) (hr0_1 : Kd.C (Kd.int .i64) w A0_1 l0_1.length l0_1) (hc0_1 : l0_1.length ≤ c0_1) (hr1 : Kd.C k50 w A1 l1.length l1) (hc1 : l1.length ≤ c1) (h : impl_termEnd.f k a0_0 l0_1 l1 a2 = some r),
  Calls Tryd.prog 38 #[.agg #[.int .i64 a0_0, .slice A0_1 l0_1.length c0_1], .slice A1 l1.length c1, .int .i64 a2] w fun e w' => e = .returned (.int .i64 r) ∧ Below w.heap.size w w' := by
 induction k using Nat.strongRecOn with
 | _ k ih =>
 intro a0_0 A0_1 c0_1 l0_1 A1 c1 l1 a2 r w hr0_1 hc0_1 hr1 hc1 h
 cases k with
 | zero => exact absurd h (by simp [impl_termEnd.f])
 | succ k =>
 simp only [impl_termEnd.f] at h
 have hu30 := Tryd.underlying30
 have HR0_1 := Aside0.mk hr0_1
 have HC0_1 := Aside0.mk hc0_1
 clear hr0_1 hc0_1
 have HR1 := Aside0.mk hr1
 have HC1 := Aside0.mk hc1
 clear hr1 hc1
 have HB := Aside0.mk (Below.refl w.heap.size w)
 have H : (if a2 ≥ (l1.length : Int) then (impl_termEnd.j0 k l1 a2 true a0_0 l0_1) else (if 0 ≤ a2 then (if a2 < (l1.length : Int) then ((impl_inRange.f ((rd_T50 l1 a2).f0) 0 5).bind fun t230 => (impl_termEnd.j0 k l1 a2 (!t230) a0_0 l0_1)) else (none)) else (none))) = some r := h
 clear h
 have HC4 := Aside0.mk H
 clear H
 go_enter Tryd.func38, Tryd.ntmps38
 go_upto_region 1 with (first | ((with_reducible refine gate_dst (N := 3) rfl ?_); refine boxS (N := 3) (cs := #[.int .i64 a0_0, .slice A0_1 l0_1.length c0_1]) (t := 30) ?_; intro gb228 hg w5 hbox hb; have n0_ := Aside0.mk (below_step (bW) hb); have n1_ := Aside0.mk (hbox); have n2_ := geW (w := w) hg; have n3_ := geW (w := w) hg; clear HB; have HB := n0_; have BK228 := n1_; have GW228 := n2_; have GE228 := n3_; clear n0_ n1_ n2_ n3_ hb hbox hg))
 (try simp only [Act.put, List.setIfInBounds_toArray, List.set_cons_zero, List.set_cons_succ])
 go_cut [20] (fun v20 wc => ∃ (kq : Nat) (x20_3 : Bool), v20 = .bool x20_3 ∧ Aside0 (impl_termEnd.j0 kq l1 a2 x20_3 a0_0 l0_1 = some r) ∧ Aside0 (kq ≤ k) ∧ Aside0 (wc.heap[gb228]? = some (.cells #[.int .i64 a0_0, (.slice A0_1 l0_1.length c0_1)] 30 (0, 0))) ∧ Aside0 (Below w.heap.size w wc))
 case first =>
  have H := HC4.out
  clear HC4
  by_cases c6 : a2 ≥ (l1.length : Int)
  ·rw [if_pos c6] at H
   have c6b0 : decide ((l1.length : Int) ≤ a2) = true := decide_eq_true c6
   clear c6
   (first | rw [c6b0] | (simp only [i64_w, i32_w]; rw [c6b0]) | skip)
   have H' := Aside0.mk H
   clear H
   go_wp2
   go_meet
   case rel => exact ⟨_, (true), (eW), H', ⟨by first | omega | exact Nat.le_refl _⟩, ⟨(bP BK228.out)⟩, ⟨bW⟩⟩
  ·rw [if_neg c6] at H
   have c6b0 : decide ((l1.length : Int) ≤ a2) = false := decide_eq_false c6
   clear c6
   (first | rw [c6b0] | (simp only [i64_w, i32_w]; rw [c6b0]) | skip)
   by_cases c7 : 0 ≤ a2
   ·rw [if_pos c7] at H
    have c7b0 : decide (0 ≤ a2) = true := decide_eq_true c7
    clear c7
    by_cases c8 : a2 < (l1.length : Int)
    ·rw [if_pos c8] at H
     have c8b0 : decide (a2 < (l1.length : Int)) = true := decide_eq_true c8
     clear c8
     replace H := Option.bind_eq_some_iff.mp H
     obtain ⟨t230, A90, H⟩ := H
     replace H : (impl_termEnd.j0 k l1 a2 (!t230) a0_0 l0_1) = some r := H
     have A9 := Aside0.mk A90
     clear A90
     have H' := Aside0.mk H
     clear H
     have p229 : 0 ≤ (a2 : Int) := ofD
     have q229 : a2 < (l1.length : Int) := ofD
     obtain ⟨ad229, e229, hx229_0, hx229_1⟩ := at_T50 HR1.out a2 p229 q229
     cases e229
     replace hx229_0 := (HB.out.cell (World.block_lt_of_cell? w _ hx229_0)).trans hx229_0
     replace hx229_1 := (HB.out.cell (World.block_lt_of_cell? w _ hx229_1)).trans hx229_1
     replace p229 := eq_true p229
     replace q229 := eq_true q229
     go_wp2_with (first | (go_at_call 50; (with_reducible refine (impl_inRange.calls ((rd_T50 l1 a2).f0) 0 5 t230 _ A9.out).mono ?_); rintro e w' ⟨rfl, ⟨nd, rfl⟩⟩))
     go_meet
     case rel => exact ⟨_, (!t230), (eW), H', ⟨by first | omega | exact Nat.le_refl _⟩, ⟨(bP BK228.out)⟩, ⟨bW⟩⟩
    ·rw [if_neg c8] at H
     exact absurd H (by simp)
   ·rw [if_neg c7] at H
    exact absurd H (by simp)
 case rest =>
  clear HC4
  try clear c1
  try clear p2
  try clear q2
  try clear hx2
  try clear c3
  try clear c6
  try clear c6b0
  try clear c7
  try clear c7b0
  try clear c8
  try clear c8b0
  try clear hx229_0
  try clear hx229_1
  try clear p229
  try clear q229
  obtain ⟨kq, x20_3, rfl, HA, HJ3, BK228, HB⟩ := hcut
  cases kq with
  | zero => exact absurd HA.out (by simp [impl_termEnd.j0])
  | succ kj3 =>
   have H := HA.out
   clear HA
   simp only [impl_termEnd.j0] at H
   by_cases c10 : x20_3 = true
   ·subst c10
    have H1 : (some (-1)) = some r := by rw [if_pos rfl] at H; exact H
    clear H
    have H := H1
    clear H1
    obtain rfl := Option.some.inj H
    go_wp2
    go_ret
    exact ⟨eW, bW⟩
   ·replace c10 := Bool.eq_false_iff.mpr c10
    subst c10
    have H1 : (if 0 ≤ a2 then (if a2 < (l1.length : Int) then (if ((rd_T50 l1 a2).f0) = 2 then ((impl_isLetter.f a0_0 l0_1 ((rd_T50 l1 a2).f1)).bind fun t233 => (if t233 = true then (impl_termEnd.j1 kj3 l1 a2 false a0_0 l0_1) else (impl_termEnd.j1 kj3 l1 a2 true a0_0 l0_1))) else (impl_termEnd.j1 kj3 l1 a2 (((rd_T50 l1 a2).f1) != 0) a0_0 l0_1)) else (none)) else (none)) = some r := by rw [if_neg (show ¬ (false = true) by decide)] at H; exact H
    clear H
    have H := H1
    clear H1
    have HC11 := Aside0.mk H
    clear H
    go_upto_region 3 with (fail)
    go_cut [52] (fun v52 wc => ∃ (kq : Nat) (x52_10 : Bool), v52 = .bool x52_10 ∧ Aside0 (impl_termEnd.j1 kq l1 a2 x52_10 a0_0 l0_1 = some r) ∧ Aside0 (kq ≤ kj3) ∧ Aside0 (wc.heap[gb228]? = some (.cells #[.int .i64 a0_0, (.slice A0_1 l0_1.length c0_1)] 30 (0, 0))) ∧ Aside0 (Below w.heap.size w wc))
    case first =>
     have H := HC11.out
     clear HC11
     by_cases c12 : 0 ≤ a2
     ·rw [if_pos c12] at H
      have c12b0 : decide (0 ≤ a2) = true := decide_eq_true c12
      clear c12
      (first | rw [c12b0] | (simp only [i64_w, i32_w]; rw [c12b0]) | skip)
      by_cases c13 : a2 < (l1.length : Int)
      ·rw [if_pos c13] at H
       have c13b0 : decide (a2 < (l1.length : Int)) = true := decide_eq_true c13
       clear c13
       by_cases c14 : ((rd_T50 l1 a2).f0) = 2
       ·rw [if_pos c14] at H
        have c14b0 : (((rd_T50 l1 a2).f0) == 2) = true := beq_iff_eq.mpr c14
        have c14b1 : (((rd_T50 l1 a2).f0) != 2) = false := bne_eq_false_iff_eq.mpr c14
        clear c14
        replace H := Option.bind_eq_some_iff.mp H
        obtain ⟨t233, A150, H⟩ := H
        replace H : (if t233 = true then (impl_termEnd.j1 kj3 l1 a2 false a0_0 l0_1) else (impl_termEnd.j1 kj3 l1 a2 true a0_0 l0_1)) = some r := H
        have A15 := Aside0.mk A150
        clear A150
        by_cases c16 : t233 = true
        ·subst c16
         have H1 : (impl_termEnd.j1 kj3 l1 a2 false a0_0 l0_1) = some r := by rw [if_pos rfl] at H; exact H
         clear H
         have H := H1
         clear H1
         have H' := Aside0.mk H
         clear H
         try go_wp2
         have n0_ := Aside0.mk (blk_drew BK228.out)
         have n1_ := Aside0.mk (below_drew1 HB.out)
         clear BK228 HB; have BK228 := n0_; have HB := n1_; clear n0_ n1_
         have p231 : 0 ≤ (a2 : Int) := ofD
         have q231 : a2 < (l1.length : Int) := ofD
         obtain ⟨ad231, e231, hx231_0, hx231_1⟩ := at_T50 HR1.out a2 p231 q231
         have hw231_1 := hx231_1
         have hw231_0 := hx231_0
         cases e231
         replace hx231_0 := (HB.out.cell (World.block_lt_of_cell? w _ hx231_0)).trans hx231_0
         replace hx231_1 := (HB.out.cell (World.block_lt_of_cell? w _ hx231_1)).trans hx231_1
         replace p231 := eq_true p231
         replace q231 := eq_true q231
         have p232 : 0 ≤ (a2 : Int) := ofD
         have q232 : a2 < (l1.length : Int) := ofD
         obtain ⟨ad232, e232, hx232_0, hx232_1⟩ := at_T50 HR1.out a2 p232 q232
         have hw232_1 := hx232_1
         have hw232_0 := hx232_0
         obtain rfl : ad231 = ad232 := (by injection e232)
         replace hx232_0 := (HB.out.cell (World.block_lt_of_cell? w _ hx232_0)).trans hx232_0
         replace hx232_1 := (HB.out.cell (World.block_lt_of_cell? w _ hx232_1)).trans hx232_1
         replace p232 := eq_true p232
         replace q232 := eq_true q232
         have p234 : 0 ≤ (a2 : Int) := ofD
         have q234 : a2 < (l1.length : Int) := ofD
         obtain ⟨ad234, e234, hx234_0, hx234_1⟩ := at_T50 HR1.out a2 p234 q234
         have hw234_1 := hx234_1
         have hw234_0 := hx234_0
         obtain rfl : ad231 = ad234 := (by injection e234)
         replace hx234_0 := (HB.out.cell (World.block_lt_of_cell? w _ hx234_0)).trans hx234_0
         replace hx234_1 := (HB.out.cell (World.block_lt_of_cell? w _ hx234_1)).trans hx234_1
         replace p234 := eq_true p234
         replace q234 := eq_true q234
         refine start_ (n := 32) (S := fun w' => w'.cell? ⟨gb228, 0, none⟩ = some (.int .i64 a0_0) ∧ w'.cell? ⟨gb228, 1, none⟩ = some (.slice A0_1 l0_1.length c0_1) ∧ w'.cell? (ad231.add ((a2).toNat * 2)) = some (.int .i64 ((rd_T50 l1 a2).f0)) ∧ w'.cell? ⟨(ad231.add ((a2).toNat * 2)).block, (ad231.add ((a2).toNat * 2)).off + 1, none⟩ = some (.int .i64 ((rd_T50 l1 a2).f1)) ∧ w'.cell? (ad231.add ((a2).toNat * 2)) = some (.int .i64 ((rd_T50 l1 a2).f0)) ∧ w'.cell? ⟨(ad231.add ((a2).toNat * 2)).block, (ad231.add ((a2).toNat * 2)).off + 1, none⟩ = some (.int .i64 ((rd_T50 l1 a2).f1)) ∧ w'.cell? (ad231.add ((a2).toNat * 2)) = some (.int .i64 ((rd_T50 l1 a2).f0)) ∧ w'.cell? ⟨(ad231.add ((a2).toNat * 2)).block, (ad231.add ((a2).toNat * 2)).off + 1, none⟩ = some (.int .i64 ((rd_T50 l1 a2).f1))) (ds := []) #[false, false, false, false, false, false, false, false, false, false, false, false, false, false, false, false, false, false, false, false, false, false, false, false, false, false, false, false, false, false, false, false] (by kernel_rfl) rfl rfl ⟨(blk_cell BK228.out 0).trans rfl, (blk_cell BK228.out 1).trans rfl, ((HB.out.cell (World.block_lt_of_cell? w _ hw231_0)).trans hw231_0), ((HB.out.cell (World.block_lt_of_cell? w _ hw231_1)).trans hw231_1), ((HB.out.cell (World.block_lt_of_cell? w _ hw232_0)).trans hw232_0), ((HB.out.cell (World.block_lt_of_cell? w _ hw232_1)).trans hw232_1), ((HB.out.cell (World.block_lt_of_cell? w _ hw234_0)).trans hw234_0), ((HB.out.cell (World.block_lt_of_cell? w _ hw234_1)).trans hw234_1)⟩ (fun hHeld => ?_); refine with_tabW impl_termEnd.tab3 impl_termEnd.bits3 (fun HT_ HW_ => ?_)
         generalize wc.drew = w17 at BK228 HB hx231_0 hx231_1 hx232_0 hx232_1 hx234_0 hx234_1 hHeld ⊢
         refine pureS (i := 0) (N := some 21) (any_of HT_.out (by kernel_rfl)) ?_
         refine pureS (i := 1) (N := some 22) (any_of HT_.out (by kernel_rfl)) ?_
         refine pureS (i := 2) (N := some 23) (any_of HT_.out (by kernel_rfl)) ?_
         refine pureS (i := 3) (N := some 24) (any_of HT_.out (by kernel_rfl)) ?_
         refine takeS (i := 4) (N := some 25) (take_ofW HT_.out HW_.out (by kernel_rfl)) hHeld ?_
         refine pureS (i := 5) (N := some 26) (any_of HT_.out (by kernel_rfl)) ?_
         refine pureS (i := 6) (N := some 27) (any_of HT_.out (by kernel_rfl)) ?_
         refine pureS (i := 8) (N := some 29) (any_of HT_.out (by kernel_rfl)) ?_
         refine pureS (i := 9) (N := some 30) (any_of HT_.out (by kernel_rfl)) ?_
         refine pureS (i := 10) (N := some 31) (any_of HT_.out (by kernel_rfl)) ?_
         refine pureS (i := 11) (N := some 32) (any_of HT_.out (by kernel_rfl)) ?_
         refine takeS (i := 7) (N := some 28) (take_ofW HT_.out HW_.out (by kernel_rfl)) hHeld ?_
         refine takeS (i := 12) (N := some 33) (take_ofW HT_.out HW_.out (by kernel_rfl)) hHeld ?_
         refine one_ (i := 13) (N := some 34) #[true, true, true, true, true, true, true, true, true, true, true, true, true, true, false, false, false, false, false, false, false, false, false, false, false, false, false, false, false, false, false, false] rfl rfl (one_of HT_.out (by kernel_rfl)) (by decide) (fun K hK => ?_)
         refine goes_ Tryd.func55 (by kernel_rfl) rfl #[.agg #[.int .i64 a0_0, .slice A0_1 l0_1.length c0_1], .int .i64 ((rd_T50 l1 a2).f1)] (by rfl) rfl rfl (by (try simp only [List.map_toArray, List.map_cons, List.map_nil]); first | done | rfl | (simp only [List.length_drop, List.length_take]; rfl)) ?_
         with_reducible refine (impl_isLetter.calls a0_0 _ _ l0_1 ((rd_T50 l1 a2).f1) true _ ?side1 ?side2 A15.out).mono ?_
         (case side1 => exact cP (Kd.C_below HR0_1.out HB.out))
         (case side2 => exact HC0_1.out)
         rintro e w18 ⟨rfl, hb⟩
         refine ⟨_, rfl, ?_⟩
         have n0_ := Aside0.mk (blkB BK228.out hb)
         have n1_ := Aside0.mk (below_step (bW) hb)
         clear BK228 HB; have BK228 := n0_; have HB := n1_; clear n0_ n1_
         (try clear hb)
         (try clear hb2)
         (try clear hk)
         (try clear hi)
         refine hK.out _ _ ⟨(blk_cell BK228.out 0).trans rfl, (blk_cell BK228.out 1).trans rfl, ((HB.out.cell (World.block_lt_of_cell? w _ hw231_0)).trans hw231_0), ((HB.out.cell (World.block_lt_of_cell? w _ hw231_1)).trans hw231_1), ((HB.out.cell (World.block_lt_of_cell? w _ hw232_0)).trans hw232_0), ((HB.out.cell (World.block_lt_of_cell? w _ hw232_1)).trans hw232_1), ((HB.out.cell (World.block_lt_of_cell? w _ hw234_0)).trans hw234_0), ((HB.out.cell (World.block_lt_of_cell? w _ hw234_1)).trans hw234_1)⟩ (fun hHeld => ?_)
         clear hK K
         refine norm_ (a' := ?_) ?_ ?_
         rotate_left
         ·show Act.put _ (some 34) _ = _
          simp only [Act.put, List.setIfInBounds_toArray, List.set_cons_zero, List.set_cons_succ, i64_w, i32_w]
          rfl
         refine pureS (i := 14) (N := some 35) (any_of HT_.out (by kernel_rfl)) ?_
         refine pureS (i := 15) (N := some 36) (any_of HT_.out (by kernel_rfl)) ?_
         refine pureS (i := 16) (N := some 37) (any_of HT_.out (by kernel_rfl)) ?_
         refine pureS (i := 17) (N := some 38) (any_of HT_.out (by kernel_rfl)) ?_
         refine pureS (i := 18) (N := some 39) (any_of HT_.out (by kernel_rfl)) ?_
         refine pureS (i := 19) (N := some 40) (any_of HT_.out (by kernel_rfl)) ?_
         refine pureS (i := 20) (N := some 41) (any_of HT_.out (by kernel_rfl)) ?_
         refine takeS (i := 21) (N := some 42) (take_ofW HT_.out HW_.out (by kernel_rfl)) hHeld ?_
         refine pureS (i := 22) (N := some 43) (any_of HT_.out (by kernel_rfl)) ?_
         refine pureS (i := 23) (N := some 44) (any_of HT_.out (by kernel_rfl)) ?_
         refine pureU (i := 24) (N := some 45) (any_of HT_.out (by kernel_rfl)) ?_
         refine pureU (i := 25) (N := some 46) (any_of HT_.out (by kernel_rfl)) ?_
         refine pureU (i := 26) (N := some 47) (any_of HT_.out (by kernel_rfl)) ?_
         refine pureU (i := 27) (N := some 48) (any_of HT_.out (by kernel_rfl)) ?_
         refine pureU (i := 28) (N := some 49) (any_of HT_.out (by kernel_rfl)) ?_
         refine pureU (i := 29) (N := some 50) (any_of HT_.out (by kernel_rfl)) ?_
         refine pureS (i := 30) (N := some 51) (any_of HT_.out (by kernel_rfl)) ?_
         refine pureS (i := 31) (N := some 52) (any_of HT_.out (by kernel_rfl)) ?_
         refine done_ (done_of HT_.out (by kernel_rfl)) ?_
         try go_wp2
         go_meet
         case rel => exact ⟨_, (false), (eW), H', ⟨by have := HJ3.out; first | omega | exact Nat.le_refl _⟩, ⟨(bP BK228.out)⟩, ⟨bW⟩⟩
        ·replace c16 := Bool.eq_false_iff.mpr c16
         subst c16
         have H1 : (impl_termEnd.j1 kj3 l1 a2 true a0_0 l0_1) = some r := by rw [if_neg (show ¬ (false = true) by decide)] at H; exact H
         clear H
         have H := H1
         clear H1
         have H' := Aside0.mk H
         clear H
         try go_wp2
         have n0_ := Aside0.mk (blk_drew BK228.out)
         have n1_ := Aside0.mk (below_drew1 HB.out)
         clear BK228 HB; have BK228 := n0_; have HB := n1_; clear n0_ n1_
         have p231 : 0 ≤ (a2 : Int) := ofD
         have q231 : a2 < (l1.length : Int) := ofD
         obtain ⟨ad231, e231, hx231_0, hx231_1⟩ := at_T50 HR1.out a2 p231 q231
         have hw231_1 := hx231_1
         have hw231_0 := hx231_0
         cases e231
         replace hx231_0 := (HB.out.cell (World.block_lt_of_cell? w _ hx231_0)).trans hx231_0
         replace hx231_1 := (HB.out.cell (World.block_lt_of_cell? w _ hx231_1)).trans hx231_1
         replace p231 := eq_true p231
         replace q231 := eq_true q231
         have p232 : 0 ≤ (a2 : Int) := ofD
         have q232 : a2 < (l1.length : Int) := ofD
         obtain ⟨ad232, e232, hx232_0, hx232_1⟩ := at_T50 HR1.out a2 p232 q232
         have hw232_1 := hx232_1
         have hw232_0 := hx232_0
         obtain rfl : ad231 = ad232 := (by injection e232)
         replace hx232_0 := (HB.out.cell (World.block_lt_of_cell? w _ hx232_0)).trans hx232_0
         replace hx232_1 := (HB.out.cell (World.block_lt_of_cell? w _ hx232_1)).trans hx232_1
         replace p232 := eq_true p232
         replace q232 := eq_true q232
         refine start_ (n := 32) (S := fun w' => w'.cell? ⟨gb228, 0, none⟩ = some (.int .i64 a0_0) ∧ w'.cell? ⟨gb228, 1, none⟩ = some (.slice A0_1 l0_1.length c0_1) ∧ w'.cell? (ad231.add ((a2).toNat * 2)) = some (.int .i64 ((rd_T50 l1 a2).f0)) ∧ w'.cell? ⟨(ad231.add ((a2).toNat * 2)).block, (ad231.add ((a2).toNat * 2)).off + 1, none⟩ = some (.int .i64 ((rd_T50 l1 a2).f1)) ∧ w'.cell? (ad231.add ((a2).toNat * 2)) = some (.int .i64 ((rd_T50 l1 a2).f0)) ∧ w'.cell? ⟨(ad231.add ((a2).toNat * 2)).block, (ad231.add ((a2).toNat * 2)).off + 1, none⟩ = some (.int .i64 ((rd_T50 l1 a2).f1))) (ds := []) #[false, false, false, false, false, false, false, false, false, false, false, false, false, false, false, false, false, false, false, false, false, false, false, false, false, false, false, false, false, false, false, false] (by kernel_rfl) rfl rfl ⟨(blk_cell BK228.out 0).trans rfl, (blk_cell BK228.out 1).trans rfl, ((HB.out.cell (World.block_lt_of_cell? w _ hw231_0)).trans hw231_0), ((HB.out.cell (World.block_lt_of_cell? w _ hw231_1)).trans hw231_1), ((HB.out.cell (World.block_lt_of_cell? w _ hw232_0)).trans hw232_0), ((HB.out.cell (World.block_lt_of_cell? w _ hw232_1)).trans hw232_1)⟩ (fun hHeld => ?_); refine with_tabW impl_termEnd.tab3 impl_termEnd.bits3 (fun HT_ HW_ => ?_)
         generalize wc.drew = w19 at BK228 HB hx231_0 hx231_1 hx232_0 hx232_1 hHeld ⊢
         refine pureS (i := 0) (N := some 21) (any_of HT_.out (by kernel_rfl)) ?_
         refine pureS (i := 1) (N := some 22) (any_of HT_.out (by kernel_rfl)) ?_
         refine pureS (i := 2) (N := some 23) (any_of HT_.out (by kernel_rfl)) ?_
         refine pureS (i := 3) (N := some 24) (any_of HT_.out (by kernel_rfl)) ?_
         refine takeS (i := 4) (N := some 25) (take_ofW HT_.out HW_.out (by kernel_rfl)) hHeld ?_
         refine pureS (i := 5) (N := some 26) (any_of HT_.out (by kernel_rfl)) ?_
         refine pureS (i := 6) (N := some 27) (any_of HT_.out (by kernel_rfl)) ?_
         refine pureS (i := 8) (N := some 29) (any_of HT_.out (by kernel_rfl)) ?_
         refine pureS (i := 9) (N := some 30) (any_of HT_.out (by kernel_rfl)) ?_
         refine pureS (i := 10) (N := some 31) (any_of HT_.out (by kernel_rfl)) ?_
         refine pureS (i := 11) (N := some 32) (any_of HT_.out (by kernel_rfl)) ?_
         refine takeS (i := 7) (N := some 28) (take_ofW HT_.out HW_.out (by kernel_rfl)) hHeld ?_
         refine takeS (i := 12) (N := some 33) (take_ofW HT_.out HW_.out (by kernel_rfl)) hHeld ?_
         refine one_ (i := 13) (N := some 34) #[true, true, true, true, true, true, true, true, true, true, true, true, true, true, false, false, false, false, false, false, false, false, false, false, false, false, false, false, false, false, false, false] rfl rfl (one_of HT_.out (by kernel_rfl)) (by decide) (fun K hK => ?_)
         refine goes_ Tryd.func55 (by kernel_rfl) rfl #[.agg #[.int .i64 a0_0, .slice A0_1 l0_1.length c0_1], .int .i64 ((rd_T50 l1 a2).f1)] (by rfl) rfl rfl (by (try simp only [List.map_toArray, List.map_cons, List.map_nil]); first | done | rfl | (simp only [List.length_drop, List.length_take]; rfl)) ?_
         with_reducible refine (impl_isLetter.calls a0_0 _ _ l0_1 ((rd_T50 l1 a2).f1) false _ ?side1 ?side2 A15.out).mono ?_
         (case side1 => exact cP (Kd.C_below HR0_1.out HB.out))
         (case side2 => exact HC0_1.out)
         rintro e w20 ⟨rfl, hb⟩
         refine ⟨_, rfl, ?_⟩
         have n0_ := Aside0.mk (blkB BK228.out hb)
         have n1_ := Aside0.mk (below_step (bW) hb)
         clear BK228 HB; have BK228 := n0_; have HB := n1_; clear n0_ n1_
         (try clear hb)
         (try clear hb2)
         (try clear hk)
         (try clear hi)
         refine hK.out _ _ ⟨(blk_cell BK228.out 0).trans rfl, (blk_cell BK228.out 1).trans rfl, ((HB.out.cell (World.block_lt_of_cell? w _ hw231_0)).trans hw231_0), ((HB.out.cell (World.block_lt_of_cell? w _ hw231_1)).trans hw231_1), ((HB.out.cell (World.block_lt_of_cell? w _ hw232_0)).trans hw232_0), ((HB.out.cell (World.block_lt_of_cell? w _ hw232_1)).trans hw232_1)⟩ (fun hHeld => ?_)
         clear hK K
         refine norm_ (a' := ?_) ?_ ?_
         rotate_left
         ·show Act.put _ (some 34) _ = _
          simp only [Act.put, List.setIfInBounds_toArray, List.set_cons_zero, List.set_cons_succ, i64_w, i32_w]
          rfl
         refine pureS (i := 14) (N := some 35) (any_of HT_.out (by kernel_rfl)) ?_
         refine pureS (i := 15) (N := some 36) (any_of HT_.out (by kernel_rfl)) ?_
         refine pureS (i := 16) (N := some 37) (any_of HT_.out (by kernel_rfl)) ?_
         refine pureU (i := 17) (N := some 38) (any_of HT_.out (by kernel_rfl)) ?_
         refine pureU (i := 18) (N := some 39) (any_of HT_.out (by kernel_rfl)) ?_
         refine pureU (i := 19) (N := some 40) (any_of HT_.out (by kernel_rfl)) ?_
         refine pureU (i := 20) (N := some 41) (any_of HT_.out (by kernel_rfl)) ?_
         refine pureU (i := 21) (N := some 42) (any_of HT_.out (by kernel_rfl)) ?_
         refine pureU (i := 22) (N := some 43) (any_of HT_.out (by kernel_rfl)) ?_
         refine pureU (i := 23) (N := some 44) (any_of HT_.out (by kernel_rfl)) ?_
         refine pureU (i := 24) (N := some 45) (any_of HT_.out (by kernel_rfl)) ?_
         refine pureU (i := 25) (N := some 46) (any_of HT_.out (by kernel_rfl)) ?_
         refine pureU (i := 26) (N := some 47) (any_of HT_.out (by kernel_rfl)) ?_
         refine pureU (i := 27) (N := some 48) (any_of HT_.out (by kernel_rfl)) ?_
         refine pureU (i := 28) (N := some 49) (any_of HT_.out (by kernel_rfl)) ?_
         refine pureU (i := 29) (N := some 50) (any_of HT_.out (by kernel_rfl)) ?_
         refine pureU (i := 30) (N := some 51) (any_of HT_.out (by kernel_rfl)) ?_
         refine pureS (i := 31) (N := some 52) (any_of HT_.out (by kernel_rfl)) ?_
         refine done_ (done_of HT_.out (by kernel_rfl)) ?_
         try go_wp2
         go_meet
         case rel => exact ⟨_, (true), (eW), H', ⟨by have := HJ3.out; first | omega | exact Nat.le_refl _⟩, ⟨(bP BK228.out)⟩, ⟨bW⟩⟩
       ·rw [if_neg c14] at H
        have c14b0 : (((rd_T50 l1 a2).f0) == 2) = false := beq_eq_false_iff_ne.mpr c14
        have c14b1 : (((rd_T50 l1 a2).f0) != 2) = true := bne_iff_ne.mpr c14
        have H' := Aside0.mk H
        clear H
        try go_wp2
        have n0_ := Aside0.mk (blk_drew BK228.out)
        have n1_ := Aside0.mk (below_drew1 HB.out)
        clear BK228 HB; have BK228 := n0_; have HB := n1_; clear n0_ n1_
        have p231 : 0 ≤ (a2 : Int) := ofD
        have q231 : a2 < (l1.length : Int) := ofD
        obtain ⟨ad231, e231, hx231_0, hx231_1⟩ := at_T50 HR1.out a2 p231 q231
        have hw231_1 := hx231_1
        have hw231_0 := hx231_0
        cases e231
        replace hx231_0 := (HB.out.cell (World.block_lt_of_cell? w _ hx231_0)).trans hx231_0
        replace hx231_1 := (HB.out.cell (World.block_lt_of_cell? w _ hx231_1)).trans hx231_1
        replace p231 := eq_true p231
        replace q231 := eq_true q231
        have p235 : 0 ≤ (a2 : Int) := ofD
        have q235 : a2 < (l1.length : Int) := ofD
        obtain ⟨ad235, e235, hx235_0, hx235_1⟩ := at_T50 HR1.out a2 p235 q235
        have hw235_1 := hx235_1
        have hw235_0 := hx235_0
        obtain rfl : ad231 = ad235 := (by injection e235)
        replace hx235_0 := (HB.out.cell (World.block_lt_of_cell? w _ hx235_0)).trans hx235_0
        replace hx235_1 := (HB.out.cell (World.block_lt_of_cell? w _ hx235_1)).trans hx235_1
        replace p235 := eq_true p235
        replace q235 := eq_true q235
        have p236 : 0 ≤ (a2 : Int) := ofD
        have q236 : a2 < (l1.length : Int) := ofD
        obtain ⟨ad236, e236, hx236_0, hx236_1⟩ := at_T50 HR1.out a2 p236 q236
        have hw236_1 := hx236_1
        have hw236_0 := hx236_0
        obtain rfl : ad231 = ad236 := (by injection e236)
        replace hx236_0 := (HB.out.cell (World.block_lt_of_cell? w _ hx236_0)).trans hx236_0
        replace hx236_1 := (HB.out.cell (World.block_lt_of_cell? w _ hx236_1)).trans hx236_1
        replace p236 := eq_true p236
        replace q236 := eq_true q236
        refine start_ (n := 32) (S := fun w' => w'.cell? (ad231.add ((a2).toNat * 2)) = some (.int .i64 ((rd_T50 l1 a2).f0)) ∧ w'.cell? ⟨(ad231.add ((a2).toNat * 2)).block, (ad231.add ((a2).toNat * 2)).off + 1, none⟩ = some (.int .i64 ((rd_T50 l1 a2).f1)) ∧ w'.cell? (ad231.add ((a2).toNat * 2)) = some (.int .i64 ((rd_T50 l1 a2).f0)) ∧ w'.cell? ⟨(ad231.add ((a2).toNat * 2)).block, (ad231.add ((a2).toNat * 2)).off + 1, none⟩ = some (.int .i64 ((rd_T50 l1 a2).f1)) ∧ w'.cell? (ad231.add ((a2).toNat * 2)) = some (.int .i64 ((rd_T50 l1 a2).f0)) ∧ w'.cell? ⟨(ad231.add ((a2).toNat * 2)).block, (ad231.add ((a2).toNat * 2)).off + 1, none⟩ = some (.int .i64 ((rd_T50 l1 a2).f1))) (ds := []) #[false, false, false, false, false, false, false, false, false, false, false, false, false, false, false, false, false, false, false, false, false, false, false, false, false, false, false, false, false, false, false, false] (by kernel_rfl) rfl rfl ⟨((HB.out.cell (World.block_lt_of_cell? w _ hw231_0)).trans hw231_0), ((HB.out.cell (World.block_lt_of_cell? w _ hw231_1)).trans hw231_1), ((HB.out.cell (World.block_lt_of_cell? w _ hw235_0)).trans hw235_0), ((HB.out.cell (World.block_lt_of_cell? w _ hw235_1)).trans hw235_1), ((HB.out.cell (World.block_lt_of_cell? w _ hw236_0)).trans hw236_0), ((HB.out.cell (World.block_lt_of_cell? w _ hw236_1)).trans hw236_1)⟩ (fun hHeld => ?_); refine with_tabW impl_termEnd.tab3 impl_termEnd.bits3 (fun HT_ HW_ => ?_)
        generalize wc.drew = w21 at BK228 HB hx231_0 hx231_1 hx235_0 hx235_1 hx236_0 hx236_1 hHeld ⊢
        refine pureS (i := 0) (N := some 21) (any_of HT_.out (by kernel_rfl)) ?_
        refine pureS (i := 1) (N := some 22) (any_of HT_.out (by kernel_rfl)) ?_
        refine pureS (i := 2) (N := some 23) (any_of HT_.out (by kernel_rfl)) ?_
        refine pureS (i := 3) (N := some 24) (any_of HT_.out (by kernel_rfl)) ?_
        refine takeS (i := 4) (N := some 25) (take_ofW HT_.out HW_.out (by kernel_rfl)) hHeld ?_
        refine pureS (i := 5) (N := some 26) (any_of HT_.out (by kernel_rfl)) ?_
        refine pureS (i := 6) (N := some 27) (any_of HT_.out (by kernel_rfl)) ?_
        refine pureU (i := 7) (N := some 28) (any_of HT_.out (by kernel_rfl)) ?_
        refine pureU (i := 8) (N := some 29) (any_of HT_.out (by kernel_rfl)) ?_
        refine pureU (i := 9) (N := some 30) (any_of HT_.out (by kernel_rfl)) ?_
        refine pureU (i := 10) (N := some 31) (any_of HT_.out (by kernel_rfl)) ?_
        refine pureU (i := 11) (N := some 32) (any_of HT_.out (by kernel_rfl)) ?_
        refine pureU (i := 12) (N := some 33) (any_of HT_.out (by kernel_rfl)) ?_
        refine pureU (i := 13) (N := some 34) (any_of HT_.out (by kernel_rfl)) ?_
        refine pureU (i := 14) (N := some 35) (any_of HT_.out (by kernel_rfl)) ?_
        refine pureS (i := 15) (N := some 36) (any_of HT_.out (by kernel_rfl)) ?_
        refine pureS (i := 16) (N := some 37) (any_of HT_.out (by kernel_rfl)) ?_
        refine pureS (i := 17) (N := some 38) (any_of HT_.out (by kernel_rfl)) ?_
        refine pureS (i := 18) (N := some 39) (any_of HT_.out (by kernel_rfl)) ?_
        refine pureS (i := 19) (N := some 40) (any_of HT_.out (by kernel_rfl)) ?_
        refine pureS (i := 20) (N := some 41) (any_of HT_.out (by kernel_rfl)) ?_
        refine takeS (i := 21) (N := some 42) (take_ofW HT_.out HW_.out (by kernel_rfl)) hHeld ?_
        refine pureS (i := 22) (N := some 43) (any_of HT_.out (by kernel_rfl)) ?_
        refine pureS (i := 23) (N := some 44) (any_of HT_.out (by kernel_rfl)) ?_
        refine pureS (i := 24) (N := some 45) (any_of HT_.out (by kernel_rfl)) ?_
        refine pureS (i := 25) (N := some 46) (any_of HT_.out (by kernel_rfl)) ?_
        refine pureS (i := 26) (N := some 47) (any_of HT_.out (by kernel_rfl)) ?_
        refine pureS (i := 27) (N := some 48) (any_of HT_.out (by kernel_rfl)) ?_
        refine takeS (i := 28) (N := some 49) (take_ofW HT_.out HW_.out (by kernel_rfl)) hHeld ?_
        refine pureS (i := 29) (N := some 50) (any_of HT_.out (by kernel_rfl)) ?_
        refine pureS (i := 30) (N := some 51) (any_of HT_.out (by kernel_rfl)) ?_
        refine pureS (i := 31) (N := some 52) (any_of HT_.out (by kernel_rfl)) ?_
        refine done_ (done_of HT_.out (by kernel_rfl)) ?_
        try go_wp2
        go_meet
        case rel => exact ⟨_, ((((rd_T50 l1 a2).f1) != 0)), (eW), H', ⟨by have := HJ3.out; first | omega | exact Nat.le_refl _⟩, ⟨(bP BK228.out)⟩, ⟨bW⟩⟩
      ·rw [if_neg c13] at H
       exact absurd H (by simp)
     ·rw [if_neg c12] at H
      exact absurd H (by simp)
    case rest =>
     clear HC11
     try clear c1
     try clear p2
     try clear q2
     try clear hx2
     try clear c5
     try clear c12
     try clear c13
     try clear c14
     try clear c14b0
     try clear c14b1
     try clear c16
     try clear hx231_0
     try clear hx231_1
     try clear hx232_0
     try clear hx232_1
     try clear hx235_0
     try clear hx235_1
     try clear hx236_0
     try clear hx236_1
     try clear p231
     try clear p232
     try clear p235
     try clear p236
     try clear q231
     try clear q232
     try clear q235
     try clear q236
     obtain ⟨kq, x52_10, rfl, HA, HJ10, BK228, HB⟩ := hcut
     cases kq with
     | zero => exact absurd HA.out (by simp [impl_termEnd.j1])
     | succ kj10 =>
      have H := HA.out
      clear HA
      simp only [impl_termEnd.j1] at H
      by_cases c22 : x52_10 = true
      ·subst c22
       have H1 : (some (-1)) = some r := by rw [if_pos rfl] at H; exact H
       clear H
       have H := H1
       clear H1
       obtain rfl := Option.some.inj H
       go_wp2
       go_ret
       exact ⟨eW, bW⟩
      ·replace c22 := Bool.eq_false_iff.mpr c22
       subst c22
       have H1 : (if 0 ≤ a2 then (if a2 < (l1.length : Int) then ((impl_partsIn.f ((rd_T50 l1 a2).f0)).bind fun t238 => (impl_termEnd.l0 kj10 l1 (wrap64 (a2 + 1)) t238 0 a0_0 l0_1)) else (none)) else (none)) = some r := by rw [if_neg (show ¬ (false = true) by decide)] at H; exact H
       clear H
       have H := H1
       clear H1
       by_cases c23 : 0 ≤ a2
       ·rw [if_pos c23] at H
        have c23b0 : decide (0 ≤ a2) = true := decide_eq_true c23
        clear c23
        by_cases c24 : a2 < (l1.length : Int)
        ·rw [if_pos c24] at H
         have c24b0 : decide (a2 < (l1.length : Int)) = true := decide_eq_true c24
         clear c24
         replace H := Option.bind_eq_some_iff.mp H
         obtain ⟨t238, A250, H⟩ := H
         replace H : (impl_termEnd.l0 kj10 l1 (wrap64 (a2 + 1)) t238 0 a0_0 l0_1) = some r := H
         have A25 := Aside0.mk A250
         clear A250
         have H' := Aside0.mk H
         clear H
         have p237 : 0 ≤ (a2 : Int) := ofD
         have q237 : a2 < (l1.length : Int) := ofD
         obtain ⟨ad237, e237, hx237_0, hx237_1⟩ := at_T50 HR1.out a2 p237 q237
         cases e237
         replace hx237_0 := (HB.out.cell (World.block_lt_of_cell? w _ hx237_0)).trans hx237_0
         replace hx237_1 := (HB.out.cell (World.block_lt_of_cell? w _ hx237_1)).trans hx237_1
         replace p237 := eq_true p237
         replace q237 := eq_true q237
         go_wp2_with (first | ((with_reducible refine gate_callee (f := 56) rfl ?_); refine goesS (some 60) Tryd.func56 #[.int .i64 ((rd_T50 l1 a2).f0)] ?_; (with_reducible refine (impl_partsIn.calls ((rd_T50 l1 a2).f0) t238 _ A25.out).mono ?_); rintro e w' ⟨rfl, ⟨nd, rfl⟩⟩; refine ⟨_, rfl, ?_⟩))
         go_loopg [7, 61] kj10 (fun kq v7 v61 w' => ∃ (x7_3 : Int) (x61_3 : Int), v7 = .int .i64 x7_3 ∧ v61 = .int .i64 x61_3 ∧ Aside0 (impl_termEnd.l0 kq l1 x7_3 t238 x61_3 a0_0 l0_1 = some r) ∧ Aside0 (kq ≤ kj10) ∧ Aside0 (w'.heap[gb228]? = some (.cells #[.int .i64 a0_0, (.slice A0_1 l0_1.length c0_1)] 30 (0, 0))) ∧ Aside0 (Below w.heap.size w w'))
         case atStart => exact ⟨(wrap64 (a2 + 1)), (0), (eW), (eW), H', ⟨Nat.le_refl _⟩, ⟨(bP BK228.out)⟩, ⟨bW⟩⟩
         case round =>
          clear H'
          try clear c1
          try clear c2
          try clear p2
          try clear q2
          try clear hx2
          try clear c5
          try clear p6
          try clear c12
          try clear c13
          try clear c14
          try clear c14b0
          try clear c14b1
          try clear c16
          try clear c22
          try clear c23
          try clear c23b0
          try clear p23
          try clear q23
          try clear hx23
          try clear c24
          try clear c24b0
          try clear hx231_0
          try clear hx231_1
          try clear hx232_0
          try clear hx232_1
          try clear hx235_0
          try clear hx235_1
          try clear hx236_0
          try clear hx236_1
          try clear hx237_0
          try clear hx237_1
          try clear p2
          try clear p231
          try clear p232
          try clear p235
          try clear p236
          try clear p237
          try clear q2
          try clear q231
          try clear q232
          try clear q235
          try clear q236
          try clear q237
          obtain ⟨x7_3, x61_3, rfl, rfl, HA, HK3, BK228, HB⟩ := hrel
          cases gk with
          | zero => exact absurd HA.out (by simp [impl_termEnd.l0])
          | succ k3 =>
           have H := HA.out
           clear HA
           simp only [impl_termEnd.l0] at H
           by_cases c26 : x61_3 < t238
           ·rw [if_pos c26] at H
            have c26b0 : decide (x61_3 < t238) = true := decide_eq_true c26
            clear c26
            replace H := Option.bind_eq_some_iff.mp H
            obtain ⟨t239, A270, H⟩ := H
            replace H : (if t239 < 0 then (some (-1)) else (impl_termEnd.l0 k3 l1 t239 t238 (wrap64 (x61_3 + 1)) a0_0 l0_1)) = some r := H
            have A27 := Aside0.mk A270
            clear A270
            by_cases c28 : t239 < 0
            ·rw [if_pos c28] at H
             have c28b0 : decide (t239 < 0) = true := decide_eq_true c28
             clear c28
             obtain rfl := Option.some.inj H
             have hcz29_0 : wr.cell? ⟨gb228, 0, none⟩ = some (.int .i64 a0_0) := (blk_cell BK228.out 0).trans rfl
             have hcz29_1 : wr.cell? ⟨gb228, 1, none⟩ = some (.slice A0_1 l0_1.length c0_1) := (blk_cell BK228.out 1).trans rfl
             have hfz29_0 := blk_frozen BK228.out 0
             have hfz29_1 := blk_frozen BK228.out 1
             go_wp2_with (first | ((with_reducible refine gate_callee (f := 38) rfl ?_); refine goesS (some 66) Tryd.func38 #[.agg #[.int .i64 a0_0, .slice A0_1 l0_1.length c0_1], .slice (some ad237) l1.length c1, .int .i64 x7_3] ?_; (with_reducible refine (ih k3 (by have := HJ3.out; have := HJ10.out; have := HK3.out; omega) a0_0 _ _ l0_1 _ _ l1 x7_3 t239 _ ?side1 ?side2 ?side3 ?side4 A27.out).mono ?_); (case side1 => exact cP (Kd.C_below HR0_1.out HB.out)); (case side2 => exact HC0_1.out); (case side3 => exact cP (Kd.C_below HR1.out HB.out)); (case side4 => exact HC1.out); rintro e w30 ⟨rfl, hb⟩; refine ⟨_, rfl, ?_⟩; have n0_ := Aside0.mk (blkB BK228.out hb); have n1_ := Aside0.mk (below_step (bW) hb); clear BK228 HB; have BK228 := n0_; have HB := n1_; clear n0_ n1_; (try clear hb); (try clear hb2); (try clear hk); (try clear hi)))
             go_ret
             exact ⟨eW, bW⟩
            ·rw [if_neg c28] at H
             have c28b0 : decide (t239 < 0) = false := decide_eq_false c28
             clear c28
             have H' := Aside0.mk H
             clear H
             have hcz31_0 : wr.cell? ⟨gb228, 0, none⟩ = some (.int .i64 a0_0) := (blk_cell BK228.out 0).trans rfl
             have hcz31_1 : wr.cell? ⟨gb228, 1, none⟩ = some (.slice A0_1 l0_1.length c0_1) := (blk_cell BK228.out 1).trans rfl
             have hfz31_0 := blk_frozen BK228.out 0
             have hfz31_1 := blk_frozen BK228.out 1
             go_wp2_with (first | ((with_reducible refine gate_callee (f := 38) rfl ?_); refine goesS (some 66) Tryd.func38 #[.agg #[.int .i64 a0_0, .slice A0_1 l0_1.length c0_1], .slice (some ad237) l1.length c1, .int .i64 x7_3] ?_; (with_reducible refine (ih k3 (by have := HJ3.out; have := HJ10.out; have := HK3.out; omega) a0_0 _ _ l0_1 _ _ l1 x7_3 t239 _ ?side1 ?side2 ?side3 ?side4 A27.out).mono ?_); (case side1 => exact cP (Kd.C_below HR0_1.out HB.out)); (case side2 => exact HC0_1.out); (case side3 => exact cP (Kd.C_below HR1.out HB.out)); (case side4 => exact HC1.out); rintro e w32 ⟨rfl, hb⟩; refine ⟨_, rfl, ?_⟩; have n0_ := Aside0.mk (blkB BK228.out hb); have n1_ := Aside0.mk (below_step (bW) hb); clear BK228 HB; have BK228 := n0_; have HB := n1_; clear n0_ n1_; (try clear hb); (try clear hb2); (try clear hk); (try clear hi)))
             go_roundg k3
             case measure => have := HJ3.out; have := HJ10.out; have := HK3.out; omega
             case rel => exact ⟨(t239), (wrap64 (x61_3 + 1)), (eW), (eW), H', ⟨by have := HJ3.out; have := HJ10.out; have := HK3.out; omega⟩, ⟨(bP BK228.out)⟩, ⟨bW⟩⟩
           ·rw [if_neg c26] at H
            have c26b0 : decide (x61_3 < t238) = false := decide_eq_false c26
            clear c26
            obtain rfl := Option.some.inj H
            go_wp2
            go_ret
            exact ⟨eW, bW⟩
        ·rw [if_neg c24] at H
         exact absurd H (by simp)
       ·rw [if_neg c23] at H
        exact absurd H (by simp)
/-! ### impl_IsExpression: function 28 -/
def impl_IsExpression.f (k : Nat) (a0_0 : Int) (l0_1 : List Int) (l1 : List (S50)) : Option (Bool) := (impl_IsAlphabet.f k a0_0 l0_1).bind fun t241 => (if t241 = true then (if (l1.length : Int) ≥ 1 then (if (l1.length : Int) ≤ 24 then ((impl_termEnd.f k a0_0 l0_1 l1 0).bind fun t242 => (some (t242 == (l1.length : Int)))) else (some false)) else (some false)) else (some false))
set_option maxHeartbeats 8000000 in
set_option maxRecDepth 100000 in
theorem impl_IsExpression.calls (k : Nat) (a0_0 : Int) (A0_1 : Option Addr) (c0_1 : Nat) (l0_1 : List Int) (A1 : Option Addr) (c1 : Nat) (l1 : List (S50)) (r : Bool) (w : World) (hr0_1 : Kd.C (Kd.int .i64) w A0_1 l0_1.length l0_1) (hc0_1 : l0_1.length ≤ c0_1) (hr1 : Kd.C k50 w A1 l1.length l1) (hc1 : l1.length ≤ c1) (h : impl_IsExpression.f k a0_0 l0_1 l1 = some r) (hTab : Tab w) :
  Calls Tryd.prog 28 #[.agg #[.int .i64 a0_0, .slice A0_1 l0_1.length c0_1], .slice A1 l1.length c1] w fun e w' => e = .returned (.bool r) ∧ Below w.heap.size w w' := by
 have HTab := Aside0.mk hTab
 clear hTab
 have hu30 := Tryd.underlying30
 have HR0_1 := Aside0.mk hr0_1
 have HC0_1 := Aside0.mk hc0_1
 clear hr0_1 hc0_1
 have HR1 := Aside0.mk hr1
 have HC1 := Aside0.mk hc1
 clear hr1 hc1
 have HB := Aside0.mk (Below.refl w.heap.size w)
 have H : ((impl_IsAlphabet.f k a0_0 l0_1).bind fun t241 => (if t241 = true then (if (l1.length : Int) ≥ 1 then (if (l1.length : Int) ≤ 24 then ((impl_termEnd.f k a0_0 l0_1 l1 0).bind fun t242 => (some (t242 == (l1.length : Int)))) else (some false)) else (some false)) else (some false))) = some r := h
 clear h
 replace H := Option.bind_eq_some_iff.mp H
 obtain ⟨t241, A30, H⟩ := H
 replace H : (if t241 = true then (if (l1.length : Int) ≥ 1 then (if (l1.length : Int) ≤ 24 then ((impl_termEnd.f k a0_0 l0_1 l1 0).bind fun t242 => (some (t242 == (l1.length : Int)))) else (some false)) else (some false)) else (some false)) = some r := H
 have A3 := Aside0.mk A30
 clear A30
 by_cases c4 : t241 = true
 ·subst c4
  have H1 : (if (l1.length : Int) ≥ 1 then (if (l1.length : Int) ≤ 24 then ((impl_termEnd.f k a0_0 l0_1 l1 0).bind fun t242 => (some (t242 == (l1.length : Int)))) else (some false)) else (some false)) = some r := by rw [if_pos rfl] at H; exact H
  clear H
  have H := H1
  clear H1
  by_cases c5 : (l1.length : Int) ≥ 1
  ·rw [if_pos c5] at H
   have c5b0 : decide (1 ≤ (l1.length : Int)) = true := decide_eq_true c5
   have c5b1 : decide (1 ≤ l1.length) = true := decide_eq_true (by omega)
   clear c5
   by_cases c6 : (l1.length : Int) ≤ 24
   ·rw [if_pos c6] at H
    have c6b0 : decide ((l1.length : Int) ≤ 24) = true := decide_eq_true c6
    have c6b1 : decide (l1.length ≤ 24) = true := decide_eq_true (by omega)
    clear c6
    replace H := Option.bind_eq_some_iff.mp H
    obtain ⟨t242, A70, H⟩ := H
    replace H : (some (t242 == (l1.length : Int))) = some r := H
    have A7 := Aside0.mk A70
    clear A70
    obtain rfl := Option.some.inj H
    go_enter Tryd.func28, Tryd.ntmps28
    go_wp2_with (first | ((with_reducible refine gate_dst (N := 2) rfl ?_); (try (refine gate_guard (by rfl) ?_; dsimp only)); refine boxS (N := 2) (cs := #[.int .i64 a0_0, .slice A0_1 l0_1.length c0_1]) (t := 30) ?_; intro gb240 hg w8 hbox hb; have n0_ := Aside0.mk (below_step (bW) hb); have n1_ := Aside0.mk (hbox); have n2_ := geW (w := w) hg; have n3_ := geW (w := w) hg; clear HB; have HB := n0_; have BK240 := n1_; have GW240 := n2_; have GE240 := n3_; clear n0_ n1_ n2_ n3_ hb hbox hg; obtain ⟨hcz9_0, hcz9_1⟩ := cells2 BK240.out; obtain ⟨hfz9_0, hfz9_1⟩ := frz2 BK240.out) | ((with_reducible refine gate_callee (f := 37) rfl ?_); refine goesS (some 6) Tryd.func37 #[.agg #[.int .i64 a0_0, .slice A0_1 l0_1.length c0_1]] ?_; (with_reducible refine (impl_IsAlphabet.calls k a0_0 _ _ l0_1 true _ ?side1 ?side2 A3.out (tabW HTab.out)).mono ?_); (case side1 => exact cP (Kd.C_below HR0_1.out HB.out)); (case side2 => exact HC0_1.out); rintro e w10 ⟨rfl, hb⟩; refine ⟨_, rfl, ?_⟩; have n0_ := Aside0.mk (blkB BK240.out hb); have n1_ := Aside0.mk (below_step (bW) hb); clear BK240 HB; have BK240 := n0_; have HB := n1_; clear n0_ n1_; (try clear hb); (try clear hb2); (try clear hk); (try clear hi); obtain ⟨hcz11_0, hcz11_1⟩ := cells2 BK240.out; obtain ⟨hfz11_0, hfz11_1⟩ := frz2 BK240.out) | (go_at_call 38; (with_reducible refine (impl_termEnd.calls k a0_0 _ _ l0_1 _ _ l1 0 t242 _ ?side1 ?side2 ?side3 ?side4 A7.out).mono ?_); (case side1 => exact cP (Kd.C_below HR0_1.out HB.out)); (case side2 => exact HC0_1.out); (case side3 => exact cP (Kd.C_below HR1.out HB.out)); (case side4 => exact HC1.out); rintro e w12 ⟨rfl, hb⟩; have n0_ := Aside0.mk (blkB BK240.out hb); have n1_ := Aside0.mk (below_step (bW) hb); clear BK240 HB; have BK240 := n0_; have HB := n1_; clear n0_ n1_; (try clear hb); (try clear hb2); (try clear hk); (try clear hi)))
    go_ret
    exact ⟨eW, bW⟩
   ·rw [if_neg c6] at H
    have c6b0 : decide ((l1.length : Int) ≤ 24) = false := decide_eq_false c6
    have c6b1 : decide (l1.length ≤ 24) = false := decide_eq_false (by omega)
    clear c6
    obtain rfl := Option.some.inj H
    go_enter Tryd.func28, Tryd.ntmps28
    go_wp2_with (first | ((with_reducible refine gate_dst (N := 2) rfl ?_); (try (refine gate_guard (by rfl) ?_; dsimp only)); refine boxS (N := 2) (cs := #[.int .i64 a0_0, .slice A0_1 l0_1.length c0_1]) (t := 30) ?_; intro gb240 hg w13 hbox hb; have n0_ := Aside0.mk (below_step (bW) hb); have n1_ := Aside0.mk (hbox); have n2_ := geW (w := w) hg; have n3_ := geW (w := w) hg; clear HB; have HB := n0_; have BK240 := n1_; have GW240 := n2_; have GE240 := n3_; clear n0_ n1_ n2_ n3_ hb hbox hg; obtain ⟨hcz14_0, hcz14_1⟩ := cells2 BK240.out; obtain ⟨hfz14_0, hfz14_1⟩ := frz2 BK240.out) | ((with_reducible refine gate_callee (f := 37) rfl ?_); refine goesS (some 6) Tryd.func37 #[.agg #[.int .i64 a0_0, .slice A0_1 l0_1.length c0_1]] ?_; (with_reducible refine (impl_IsAlphabet.calls k a0_0 _ _ l0_1 true _ ?side1 ?side2 A3.out (tabW HTab.out)).mono ?_); (case side1 => exact cP (Kd.C_below HR0_1.out HB.out)); (case side2 => exact HC0_1.out); rintro e w15 ⟨rfl, hb⟩; refine ⟨_, rfl, ?_⟩; have n0_ := Aside0.mk (blkB BK240.out hb); have n1_ := Aside0.mk (below_step (bW) hb); clear BK240 HB; have BK240 := n0_; have HB := n1_; clear n0_ n1_; (try clear hb); (try clear hb2); (try clear hk); (try clear hi)))
    go_ret
    exact ⟨eW, bW⟩
  ·rw [if_neg c5] at H
   have c5b0 : decide (1 ≤ (l1.length : Int)) = false := decide_eq_false c5
   have c5b1 : decide (1 ≤ l1.length) = false := decide_eq_false (by omega)
   clear c5
   obtain rfl := Option.some.inj H
   go_enter Tryd.func28, Tryd.ntmps28
   go_wp2_with (first | ((with_reducible refine gate_dst (N := 2) rfl ?_); (try (refine gate_guard (by rfl) ?_; dsimp only)); refine boxS (N := 2) (cs := #[.int .i64 a0_0, .slice A0_1 l0_1.length c0_1]) (t := 30) ?_; intro gb240 hg w16 hbox hb; have n0_ := Aside0.mk (below_step (bW) hb); have n1_ := Aside0.mk (hbox); have n2_ := geW (w := w) hg; have n3_ := geW (w := w) hg; clear HB; have HB := n0_; have BK240 := n1_; have GW240 := n2_; have GE240 := n3_; clear n0_ n1_ n2_ n3_ hb hbox hg; obtain ⟨hcz17_0, hcz17_1⟩ := cells2 BK240.out; obtain ⟨hfz17_0, hfz17_1⟩ := frz2 BK240.out) | ((with_reducible refine gate_callee (f := 37) rfl ?_); refine goesS (some 6) Tryd.func37 #[.agg #[.int .i64 a0_0, .slice A0_1 l0_1.length c0_1]] ?_; (with_reducible refine (impl_IsAlphabet.calls k a0_0 _ _ l0_1 true _ ?side1 ?side2 A3.out (tabW HTab.out)).mono ?_); (case side1 => exact cP (Kd.C_below HR0_1.out HB.out)); (case side2 => exact HC0_1.out); rintro e w18 ⟨rfl, hb⟩; refine ⟨_, rfl, ?_⟩; have n0_ := Aside0.mk (blkB BK240.out hb); have n1_ := Aside0.mk (below_step (bW) hb); clear BK240 HB; have BK240 := n0_; have HB := n1_; clear n0_ n1_; (try clear hb); (try clear hb2); (try clear hk); (try clear hi)))
   go_ret
   exact ⟨eW, bW⟩
 ·replace c4 := Bool.eq_false_iff.mpr c4
  subst c4
  have H1 : (some false) = some r := by rw [if_neg (show ¬ (false = true) by decide)] at H; exact H
  clear H
  have H := H1
  clear H1
  obtain rfl := Option.some.inj H
  go_enter Tryd.func28, Tryd.ntmps28
  go_wp2_with (first | ((with_reducible refine gate_dst (N := 2) rfl ?_); (try (refine gate_guard (by rfl) ?_; dsimp only)); refine boxS (N := 2) (cs := #[.int .i64 a0_0, .slice A0_1 l0_1.length c0_1]) (t := 30) ?_; intro gb240 hg w19 hbox hb; have n0_ := Aside0.mk (below_step (bW) hb); have n1_ := Aside0.mk (hbox); have n2_ := geW (w := w) hg; have n3_ := geW (w := w) hg; clear HB; have HB := n0_; have BK240 := n1_; have GW240 := n2_; have GE240 := n3_; clear n0_ n1_ n2_ n3_ hb hbox hg; obtain ⟨hcz20_0, hcz20_1⟩ := cells2 BK240.out; obtain ⟨hfz20_0, hfz20_1⟩ := frz2 BK240.out) | ((with_reducible refine gate_callee (f := 37) rfl ?_); refine goesS (some 6) Tryd.func37 #[.agg #[.int .i64 a0_0, .slice A0_1 l0_1.length c0_1]] ?_; (with_reducible refine (impl_IsAlphabet.calls k a0_0 _ _ l0_1 false _ ?side1 ?side2 A3.out (tabW HTab.out)).mono ?_); (case side1 => exact cP (Kd.C_below HR0_1.out HB.out)); (case side2 => exact HC0_1.out); rintro e w21 ⟨rfl, hb⟩; refine ⟨_, rfl, ?_⟩; have n0_ := Aside0.mk (blkB BK240.out hb); have n1_ := Aside0.mk (below_step (bW) hb); clear BK240 HB; have BK240 := n0_; have HB := n1_; clear n0_ n1_; (try clear hb); (try clear hb2); (try clear hk); (try clear hi)))
  go_ret
  exact ⟨eW, bW⟩
end Go.Proofs.YtcbcfkmeemenkaaDoor.P
end M1
