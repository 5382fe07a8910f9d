import Derived.ArgAppend
import Derived.Below
import Derived.BigQuiet
import Derived.Deep.AppendLies
import Derived.Deep.CutBlock
import Derived.Deep.DeepCutAuto
import Derived.Deep.Draws
import Derived.Deep.LoopGhost
import Derived.Deep.OwnRows
import Derived.Deep.QuietTactic
import Derived.Deep.RegionHeld3
import Derived.KernelRfl
import Derived.Laws.BitsLemmas
import Derived.Laws.BytesArg
import Derived.Laws.IdiomCopy
import Derived.Laws.MakeOwn
import Derived.Laws.OwnMore
import Derived.Laws.Rows
import Derived.Laws.Slices
import Derived.Laws.StructEq
import Derived.Lib.AppendStr
import Derived.Lib.ConvBytes
import Derived.Lib.SliceRun
import Derived.Maps.AppendAt
import Derived.OrdersHeld
import Derived.OwnWalk
import Derived.RowKit
import Derived.RowKit3
import Derived.Shelf.Abstract
import Derived.Shelf.Spec.TrailingZeros
import Derived.Tactics
import Derived.Test.YthbaocejgjpfoaaDoorProg
import Derived.WalkKit
import Derived.WideLaws
import Derived.Test.YthbaocejgjpfoaaDoorCFnExpressionTexts3
section M0
namespace Go.Proofs.YthbaocejgjpfoaaDoor.P
open Go.RowKit Go.Proofs.YthbaocejgjpfoaaDoor.Sh Go.Proofs.YthbaocejgjpfoaaDoorW.PrintWords Go.Proofs.YthbaocejgjpfoaaDoorW.PrintLast Go.Proofs.YthbaocejgjpfoaaDoorW.PrintMore
attribute [local go_sem] max2_int min2_int max_two min_two max_three min_three max_four min_four   -- for this text's walks alone
set_option linter.unusedVariables false
set_option linter.unusedSimpArgs false
/-! ### impl_IsAlphabet: function 58 -/
mutual
def impl_IsAlphabet.j0 : Nat → Bool → Int → List Int → Option (Bool)
 | 0, _, _, _ => none
 | k + 1, x22, x176000, x176001 => if x22 = true then (some false) else ((impl_converse.f k x176001).bind fun t179 => (impl_IsAlphabet.l0 k t179 (t179.length : Int) 0 x176000 x176001))
def impl_IsAlphabet.l0 : Nat → List Int → Int → Int → Int → List Int → Option (Bool)
 | 0, _, _, _, _, _ => none
 | k + 1, x25, x26, x27, x176000, x176001 => if x27 < x26 then (if 0 ≤ x27 then (if x27 < (x25.length : Int) then (if x27 < (x176001.length : Int) then (if (rd x25 x27) = (rd x176001 x27) then ((impl_has.f (rd x25 x27) x27).bind fun t184 => (if t184 = true then (impl_IsAlphabet.l0 k x25 x26 (wrap64 (x27 + 1)) x176000 x176001) else (some false))) else (some false)) else (none)) else (none)) else (none)) else (some true)
end
def impl_IsAlphabet.f (k : Nat) (a0_0 : Int) (l0_1 : List Int) : Option (Bool) := (impl_inRange.f a0_0 0 8).bind fun t176 => (if t176 = true then ((impl_length_int64_80.f l0_1).bind fun t177 => (if t177 = a0_0 then ((impl_IsRelation.f l0_1).bind fun t178 => (impl_IsAlphabet.j0 k (!t178) a0_0 l0_1)) else (impl_IsAlphabet.j0 k true a0_0 l0_1))) else (impl_IsAlphabet.j0 k true a0_0 l0_1))
def impl_IsAlphabet.T1 : Bool × List (List Nat × List Nat) := (true, [([], []), ([0], [0]), ([1], [1]), ([2], [2]), ([3, 2], [3]), ([4], [4]), ([5, 4], [4, 5]), ([6, 4, 4], [4, 6]), ([4], [4]), ([8, 4], [4, 8]), ([7, 9, 4], [4, 7, 9]), ([4, 10], [4, 10]), ([11, 7], [11]), ([12], [12]), ([13, 12], [12, 13]), ([14, 12, 12], [12, 14]), ([15, 12], [12, 15]), ([12, 16], [12, 16])])
def impl_IsAlphabet.B1 : List Nat := [0, 1, 3, 7, 15, 31, 63, 127, 31, 287, 1023, 2047, 4095, 8191, 16383, 32767, 65535, 131071]
theorem impl_IsAlphabet.tab1 : rtab .any (opsOf Tryd.f58 1) = impl_IsAlphabet.T1 := by kernel_rfl
theorem impl_IsAlphabet.bits1 : waitsOk impl_IsAlphabet.T1.2 impl_IsAlphabet.B1 = true := by kernel_rfl
set_option maxHeartbeats 8000000 in
set_option maxRecDepth 100000 in
theorem impl_IsAlphabet.calls (k : Nat) (a0_0 : Int) (A0_1 : Option Addr) (c0_1 : Nat) (l0_1 : List Int) (r : Bool) (w : World) (hr0_1 : Kd.C (Kd.int .i64) w A0_1 l0_1.length l0_1) (hc0_1 : l0_1.length ≤ c0_1) (h : impl_IsAlphabet.f k a0_0 l0_1 = some r) (hTab : Tab w) :
  Calls Tryd.prog 58 #[.agg #[.int .i64 a0_0, .slice A0_1 l0_1.length c0_1]] w fun e w' => e = .returned (.bool r) ∧ Below w.heap.size w w' := by
 have HTab := Aside0.mk hTab
 clear hTab
 have hu29 := Tryd.underlying29
 have HR0_1 := Aside0.mk hr0_1
 have HC0_1 := Aside0.mk hc0_1
 clear hr0_1 hc0_1
 have HB := Aside0.mk (Below.refl w.heap.size w)
 have H : ((impl_inRange.f a0_0 0 8).bind fun t176 => (if t176 = true then ((impl_length_int64_80.f l0_1).bind fun t177 => (if t177 = a0_0 then ((impl_IsRelation.f l0_1).bind fun t178 => (impl_IsAlphabet.j0 k (!t178) a0_0 l0_1)) else (impl_IsAlphabet.j0 k true a0_0 l0_1))) else (impl_IsAlphabet.j0 k true a0_0 l0_1))) = some r := h
 clear h
 have HC2 := Aside0.mk H
 clear H
 go_enter Tryd.func58, Tryd.ntmps58
 go_upto_region 1 with (first | ((with_reducible refine gate_dst (N := 1) rfl ?_); refine boxS (N := 1) (cs := #[.int .i64 a0_0, .slice A0_1 l0_1.length c0_1]) (t := 29) ?_; intro gb175 hg w3 hbox hb; have n0_ := Aside0.mk (below_step (bW) hb); have n1_ := Aside0.mk (hbox); have n2_ := geW (w := w) hg; have n3_ := geW (w := w) hg; clear HB; have HB := n0_; have BK175 := n1_; have GW175 := n2_; have GE175 := n3_; clear n0_ n1_ n2_ n3_ hb hbox hg))
 (try simp only [Act.put, List.setIfInBounds_toArray, List.set_cons_zero, List.set_cons_succ])
 go_cut [22] (fun v22 wc => ∃ (kq : Nat) (x22_1 : Bool), v22 = .bool x22_1 ∧ Aside0 (impl_IsAlphabet.j0 kq x22_1 a0_0 l0_1 = some r) ∧ Aside0 (kq ≤ k) ∧ Aside0 (wc.heap[gb175]? = some (.cells #[.int .i64 a0_0, (.slice A0_1 l0_1.length c0_1)] 29 (0, 0))) ∧ Aside0 (Below w.heap.size w wc))
 case first =>
  have H := HC2.out
  clear HC2
  replace H := Option.bind_eq_some_iff.mp H
  obtain ⟨t176, A40, H⟩ := H
  replace H : (if t176 = true then ((impl_length_int64_80.f l0_1).bind fun t177 => (if t177 = a0_0 then ((impl_IsRelation.f l0_1).bind fun t178 => (impl_IsAlphabet.j0 k (!t178) a0_0 l0_1)) else (impl_IsAlphabet.j0 k true a0_0 l0_1))) else (impl_IsAlphabet.j0 k true a0_0 l0_1)) = some r := H
  have A4 := Aside0.mk A40
  clear A40
  by_cases c5 : t176 = true
  ·subst c5
   have H1 : ((impl_length_int64_80.f l0_1).bind fun t177 => (if t177 = a0_0 then ((impl_IsRelation.f l0_1).bind fun t178 => (impl_IsAlphabet.j0 k (!t178) a0_0 l0_1)) else (impl_IsAlphabet.j0 k true a0_0 l0_1))) = some r := by rw [if_pos rfl] at H; exact H
   clear H
   have H := H1
   clear H1
   replace H := Option.bind_eq_some_iff.mp H
   obtain ⟨t177, A60, H⟩ := H
   replace H : (if t177 = a0_0 then ((impl_IsRelation.f l0_1).bind fun t178 => (impl_IsAlphabet.j0 k (!t178) a0_0 l0_1)) else (impl_IsAlphabet.j0 k true a0_0 l0_1)) = some r := H
   have A6 := Aside0.mk A60
   clear A60
   by_cases c7 : t177 = a0_0
   ·rw [if_pos c7] at H
    have c7b0 : (t177 == a0_0) = true := beq_iff_eq.mpr c7
    have c7b1 : (t177 != a0_0) = false := bne_eq_false_iff_eq.mpr c7
    clear c7
    (first | rw [c7b0] | (simp only [i64_w, i32_w]; rw [c7b0]) | skip)
    replace H := Option.bind_eq_some_iff.mp H
    obtain ⟨t178, A80, H⟩ := H
    replace H : (impl_IsAlphabet.j0 k (!t178) a0_0 l0_1) = some r := H
    have A8 := Aside0.mk A80
    clear A80
    have H' := Aside0.mk H
    clear H
    try go_wp2
    have n0_ := Aside0.mk (blk_drew BK175.out)
    have n1_ := Aside0.mk (below_drew1 HB.out)
    clear BK175 HB; have BK175 := n0_; have HB := n1_; clear n0_ n1_
    refine start_ (n := 18) (S := fun w' => w'.cell? ⟨gb175, 0, none⟩ = some (.int .i64 a0_0) ∧ w'.cell? ⟨gb175, 1, none⟩ = some (.slice A0_1 l0_1.length c0_1)) (ds := []) #[false, false, false, false, false, false, false, false, false, false, false, false, false, false, false, false, false, false] (by kernel_rfl) rfl rfl ⟨(blk_cell BK175.out 0).trans rfl, (blk_cell BK175.out 1).trans rfl⟩ (fun hHeld => ?_); refine with_tabW impl_IsAlphabet.tab1 impl_IsAlphabet.bits1 (fun HT_ HW_ => ?_)
    generalize w3.drew = w9 at BK175 HB hHeld ⊢
    refine pureS (i := 0) (N := some 5) (any_of HT_.out (by kernel_rfl)) ?_
    refine takeS (i := 1) (N := some 6) (take_ofW HT_.out HW_.out (by kernel_rfl)) hHeld ?_
    refine one_ (i := 2) (N := some 7) #[true, true, true, false, false, false, false, false, false, false, false, false, false, false, false, false, false, false] rfl rfl (one_of HT_.out (by kernel_rfl)) (by decide) (fun K hK => ?_)
    refine goes_ Tryd.func109 (by kernel_rfl) rfl #[.int .i64 a0_0, .int .i64 0, .int .i64 8] (by rfl) rfl rfl (by (try simp only [List.map_toArray, List.map_cons, List.map_nil]); first | done | rfl | (simp only [List.length_drop, List.length_take]; rfl)) ?_
    with_reducible refine (impl_inRange.calls a0_0 0 8 true _ A4.out).mono ?_
    rintro e w' ⟨rfl, ⟨nd, rfl⟩⟩
    refine ⟨_, rfl, ?_⟩
    refine hK.out _ _ ⟨(blk_cell BK175.out 0).trans rfl, (blk_cell BK175.out 1).trans rfl⟩ (fun hHeld => ?_)
    clear hK K
    refine norm_ (a' := ?_) ?_ ?_
    rotate_left
    ·show Act.put _ (some 7) _ = _
     simp only [Act.put, List.setIfInBounds_toArray, List.set_cons_zero, List.set_cons_succ, i64_w, i32_w]
     rfl
    refine pureS (i := 3) (N := some 8) (any_of HT_.out (by kernel_rfl)) ?_
    refine pureS (i := 4) (N := some 9) (any_of HT_.out (by kernel_rfl)) ?_
    refine pureS (i := 5) (N := some 10) (any_of HT_.out (by kernel_rfl)) ?_
    refine pureS (i := 8) (N := some 13) (any_of HT_.out (by kernel_rfl)) ?_
    refine takeS (i := 6) (N := some 11) (take_ofW HT_.out HW_.out (by kernel_rfl)) hHeld ?_
    refine takeS (i := 9) (N := some 14) (take_ofW HT_.out HW_.out (by kernel_rfl)) hHeld ?_
    refine one_ (i := 7) (N := some 12) #[true, true, true, true, true, true, true, true, true, true, false, false, false, false, false, false, false, false] rfl rfl (one_of HT_.out (by kernel_rfl)) (by decide) (fun K hK => ?_)
    refine goes_ Tryd.func80 (by kernel_rfl) rfl #[.slice A0_1 l0_1.length c0_1] (by rfl) rfl rfl (by (try simp only [List.map_toArray, List.map_cons, List.map_nil]); first | done | rfl | (simp only [List.length_drop, List.length_take]; rfl)) ?_
    with_reducible refine (impl_length_int64_80.calls _ _ l0_1 t177 _ ?side1 ?side2 A6.out).mono ?_
    (case side1 => exact cP (Kd.C_below HR0_1.out (bW)))
    (case side2 => exact HC0_1.out)
    rintro e w' ⟨rfl, ⟨nd, rfl⟩⟩
    refine ⟨_, rfl, ?_⟩
    refine hK.out _ _ ⟨(blk_cell BK175.out 0).trans rfl, (blk_cell BK175.out 1).trans rfl⟩ (fun hHeld => ?_)
    clear hK K
    refine norm_ (a' := ?_) ?_ ?_
    rotate_left
    ·show Act.put _ (some 12) _ = _
     simp only [Act.put, List.setIfInBounds_toArray, List.set_cons_zero, List.set_cons_succ, i64_w, i32_w]
     rfl
    refine pureS (i := 10) (N := some 15) (any_of HT_.out (by kernel_rfl)) ?_
    refine pureS (i := 11) (N := some 16) (any_of HT_.out (by kernel_rfl)) ?_
    refine pureS (i := 12) (N := some 17) (any_of HT_.out (by kernel_rfl)) ?_
    refine pureS (i := 13) (N := some 18) (any_of HT_.out (by kernel_rfl)) ?_
    refine takeS (i := 14) (N := some 19) (take_ofW HT_.out HW_.out (by kernel_rfl)) hHeld ?_
    refine one_ (i := 15) (N := some 20) #[true, true, true, true, true, true, true, true, true, true, true, true, true, true, true, true, false, false] rfl rfl (one_of HT_.out (by kernel_rfl)) (by decide) (fun K hK => ?_)
    refine goes_ Tryd.func110 (by kernel_rfl) rfl #[.slice A0_1 l0_1.length c0_1] (by rfl) rfl rfl (by (try simp only [List.map_toArray, List.map_cons, List.map_nil]); first | done | rfl | (simp only [List.length_drop, List.length_take]; rfl)) ?_
    with_reducible refine (impl_IsRelation.calls _ _ l0_1 t178 _ ?side1 ?side2 A8.out).mono ?_
    (case side1 => exact cP (Kd.C_below HR0_1.out (bW)))
    (case side2 => exact HC0_1.out)
    rintro e w10 ⟨rfl, hb⟩
    refine ⟨_, rfl, ?_⟩
    have n0_ := Aside0.mk (blkB BK175.out hb)
    have n1_ := Aside0.mk (below_step (bW) hb)
    clear BK175 HB; have BK175 := n0_; have HB := n1_; clear n0_ n1_
    (try clear hb)
    (try clear hb2)
    (try clear hk)
    (try clear hi)
    refine hK.out _ _ ⟨(blk_cell BK175.out 0).trans rfl, (blk_cell BK175.out 1).trans rfl⟩ (fun hHeld => ?_)
    clear hK K
    refine norm_ (a' := ?_) ?_ ?_
    rotate_left
    ·show Act.put _ (some 20) _ = _
     simp only [Act.put, List.setIfInBounds_toArray, List.set_cons_zero, List.set_cons_succ, i64_w, i32_w]
     rfl
    refine pureS (i := 16) (N := some 21) (any_of HT_.out (by kernel_rfl)) ?_
    refine pureS (i := 17) (N := some 22) (any_of HT_.out (by kernel_rfl)) ?_
    refine done_ (done_of HT_.out (by kernel_rfl)) ?_
    try go_wp2
    go_meet
    case rel => exact ⟨_, (!t178), (eW), H', ⟨by first | omega | exact Nat.le_refl _⟩, ⟨(bP BK175.out)⟩, ⟨bW⟩⟩
   ·rw [if_neg c7] at H
    have c7b0 : (t177 == a0_0) = false := beq_eq_false_iff_ne.mpr c7
    have c7b1 : (t177 != a0_0) = true := bne_iff_ne.mpr c7
    (first | rw [c7b0] | (simp only [i64_w, i32_w]; rw [c7b0]) | skip)
    have H' := Aside0.mk H
    clear H
    try go_wp2
    have n0_ := Aside0.mk (blk_drew BK175.out)
    have n1_ := Aside0.mk (below_drew1 HB.out)
    clear BK175 HB; have BK175 := n0_; have HB := n1_; clear n0_ n1_
    refine start_ (n := 18) (S := fun w' => w'.cell? ⟨gb175, 0, none⟩ = some (.int .i64 a0_0) ∧ w'.cell? ⟨gb175, 1, none⟩ = some (.slice A0_1 l0_1.length c0_1)) (ds := []) #[false, false, false, false, false, false, false, false, false, false, false, false, false, false, false, false, false, false] (by kernel_rfl) rfl rfl ⟨(blk_cell BK175.out 0).trans rfl, (blk_cell BK175.out 1).trans rfl⟩ (fun hHeld => ?_); refine with_tabW impl_IsAlphabet.tab1 impl_IsAlphabet.bits1 (fun HT_ HW_ => ?_)
    generalize w3.drew = w11 at BK175 HB hHeld ⊢
    refine pureS (i := 0) (N := some 5) (any_of HT_.out (by kernel_rfl)) ?_
    refine takeS (i := 1) (N := some 6) (take_ofW HT_.out HW_.out (by kernel_rfl)) hHeld ?_
    refine one_ (i := 2) (N := some 7) #[true, true, true, false, false, false, false, false, false, false, false, false, false, false, false, false, false, false] rfl rfl (one_of HT_.out (by kernel_rfl)) (by decide) (fun K hK => ?_)
    refine goes_ Tryd.func109 (by kernel_rfl) rfl #[.int .i64 a0_0, .int .i64 0, .int .i64 8] (by rfl) rfl rfl (by (try simp only [List.map_toArray, List.map_cons, List.map_nil]); first | done | rfl | (simp only [List.length_drop, List.length_take]; rfl)) ?_
    with_reducible refine (impl_inRange.calls a0_0 0 8 true _ A4.out).mono ?_
    rintro e w' ⟨rfl, ⟨nd, rfl⟩⟩
    refine ⟨_, rfl, ?_⟩
    refine hK.out _ _ ⟨(blk_cell BK175.out 0).trans rfl, (blk_cell BK175.out 1).trans rfl⟩ (fun hHeld => ?_)
    clear hK K
    refine norm_ (a' := ?_) ?_ ?_
    rotate_left
    ·show Act.put _ (some 7) _ = _
     simp only [Act.put, List.setIfInBounds_toArray, List.set_cons_zero, List.set_cons_succ, i64_w, i32_w]
     rfl
    refine pureS (i := 3) (N := some 8) (any_of HT_.out (by kernel_rfl)) ?_
    refine pureS (i := 4) (N := some 9) (any_of HT_.out (by kernel_rfl)) ?_
    refine pureS (i := 5) (N := some 10) (any_of HT_.out (by kernel_rfl)) ?_
    refine pureS (i := 8) (N := some 13) (any_of HT_.out (by kernel_rfl)) ?_
    refine takeS (i := 6) (N := some 11) (take_ofW HT_.out HW_.out (by kernel_rfl)) hHeld ?_
    refine takeS (i := 9) (N := some 14) (take_ofW HT_.out HW_.out (by kernel_rfl)) hHeld ?_
    refine one_ (i := 7) (N := some 12) #[true, true, true, true, true, true, true, true, true, true, false, false, false, false, false, false, false, false] rfl rfl (one_of HT_.out (by kernel_rfl)) (by decide) (fun K hK => ?_)
    refine goes_ Tryd.func80 (by kernel_rfl) rfl #[.slice A0_1 l0_1.length c0_1] (by rfl) rfl rfl (by (try simp only [List.map_toArray, List.map_cons, List.map_nil]); first | done | rfl | (simp only [List.length_drop, List.length_take]; rfl)) ?_
    with_reducible refine (impl_length_int64_80.calls _ _ l0_1 t177 _ ?side1 ?side2 A6.out).mono ?_
    (case side1 => exact cP (Kd.C_below HR0_1.out (bW)))
    (case side2 => exact HC0_1.out)
    rintro e w' ⟨rfl, ⟨nd, rfl⟩⟩
    refine ⟨_, rfl, ?_⟩
    refine hK.out _ _ ⟨(blk_cell BK175.out 0).trans rfl, (blk_cell BK175.out 1).trans rfl⟩ (fun hHeld => ?_)
    clear hK K
    refine norm_ (a' := ?_) ?_ ?_
    rotate_left
    ·show Act.put _ (some 12) _ = _
     simp only [Act.put, List.setIfInBounds_toArray, List.set_cons_zero, List.set_cons_succ, i64_w, i32_w]
     rfl
    refine pureS (i := 10) (N := some 15) (any_of HT_.out (by kernel_rfl)) ?_
    refine pureS (i := 11) (N := some 16) (any_of HT_.out (by kernel_rfl)) ?_
    refine pureS (i := 12) (N := some 17) (any_of HT_.out (by kernel_rfl)) ?_
    refine pureU (i := 13) (N := some 18) (any_of HT_.out (by kernel_rfl)) ?_
    refine pureU (i := 14) (N := some 19) (any_of HT_.out (by kernel_rfl)) ?_
    refine pureU (i := 15) (N := some 20) (any_of HT_.out (by kernel_rfl)) ?_
    refine pureU (i := 16) (N := some 21) (any_of HT_.out (by kernel_rfl)) ?_
    refine pureS (i := 17) (N := some 22) (any_of HT_.out (by kernel_rfl)) ?_
    refine done_ (done_of HT_.out (by kernel_rfl)) ?_
    try go_wp2
    go_meet
    case rel => exact ⟨_, (true), (eW), H', ⟨by first | omega | exact Nat.le_refl _⟩, ⟨(bP BK175.out)⟩, ⟨bW⟩⟩
  ·replace c5 := Bool.eq_false_iff.mpr c5
   subst c5
   have H1 : (impl_IsAlphabet.j0 k true a0_0 l0_1) = some r := by rw [if_neg (show ¬ (false = true) by decide)] at H; exact H
   clear H
   have H := H1
   clear H1
   have H' := Aside0.mk H
   clear H
   try go_wp2
   have n0_ := Aside0.mk (blk_drew BK175.out)
   have n1_ := Aside0.mk (below_drew1 HB.out)
   clear BK175 HB; have BK175 := n0_; have HB := n1_; clear n0_ n1_
   refine start_ (n := 18) (S := fun w' => w'.cell? ⟨gb175, 0, none⟩ = some (.int .i64 a0_0) ∧ w'.cell? ⟨gb175, 1, none⟩ = some (.slice A0_1 l0_1.length c0_1)) (ds := []) #[false, false, false, false, false, false, false, false, false, false, false, false, false, false, false, false, false, false] (by kernel_rfl) rfl rfl ⟨(blk_cell BK175.out 0).trans rfl, (blk_cell BK175.out 1).trans rfl⟩ (fun hHeld => ?_); refine with_tabW impl_IsAlphabet.tab1 impl_IsAlphabet.bits1 (fun HT_ HW_ => ?_)
   generalize w3.drew = w12 at BK175 HB hHeld ⊢
   refine pureS (i := 0) (N := some 5) (any_of HT_.out (by kernel_rfl)) ?_
   refine takeS (i := 1) (N := some 6) (take_ofW HT_.out HW_.out (by kernel_rfl)) hHeld ?_
   refine one_ (i := 2) (N := some 7) #[true, true, true, false, false, false, false, false, false, false, false, false, false, false, false, false, false, false] rfl rfl (one_of HT_.out (by kernel_rfl)) (by decide) (fun K hK => ?_)
   refine goes_ Tryd.func109 (by kernel_rfl) rfl #[.int .i64 a0_0, .int .i64 0, .int .i64 8] (by rfl) rfl rfl (by (try simp only [List.map_toArray, List.map_cons, List.map_nil]); first | done | rfl | (simp only [List.length_drop, List.length_take]; rfl)) ?_
   with_reducible refine (impl_inRange.calls a0_0 0 8 false _ A4.out).mono ?_
   rintro e w' ⟨rfl, ⟨nd, rfl⟩⟩
   refine ⟨_, rfl, ?_⟩
   refine hK.out _ _ ⟨(blk_cell BK175.out 0).trans rfl, (blk_cell BK175.out 1).trans rfl⟩ (fun hHeld => ?_)
   clear hK K
   refine norm_ (a' := ?_) ?_ ?_
   rotate_left
   ·show Act.put _ (some 7) _ = _
    simp only [Act.put, List.setIfInBounds_toArray, List.set_cons_zero, List.set_cons_succ, i64_w, i32_w]
    rfl
   refine pureS (i := 3) (N := some 8) (any_of HT_.out (by kernel_rfl)) ?_
   refine pureS (i := 4) (N := some 9) (any_of HT_.out (by kernel_rfl)) ?_
   refine pureU (i := 5) (N := some 10) (any_of HT_.out (by kernel_rfl)) ?_
   refine pureU (i := 6) (N := some 11) (any_of HT_.out (by kernel_rfl)) ?_
   refine pureU (i := 7) (N := some 12) (any_of HT_.out (by kernel_rfl)) ?_
   refine pureU (i := 8) (N := some 13) (any_of HT_.out (by kernel_rfl)) ?_
   refine pureU (i := 9) (N := some 14) (any_of HT_.out (by kernel_rfl)) ?_
   refine pureU (i := 10) (N := some 15) (any_of HT_.out (by kernel_rfl)) ?_
   refine pureS (i := 11) (N := some 16) (any_of HT_.out (by kernel_rfl)) ?_
   refine pureS (i := 12) (N := some 17) (any_of HT_.out (by kernel_rfl)) ?_
   refine pureU (i := 13) (N := some 18) (any_of HT_.out (by kernel_rfl)) ?_
   refine pureU (i := 14) (N := some 19) (any_of HT_.out (by kernel_rfl)) ?_
   refine pureU (i := 15) (N := some 20) (any_of HT_.out (by kernel_rfl)) ?_
   refine pureU (i := 16) (N := some 21) (any_of HT_.out (by kernel_rfl)) ?_
   refine pureS (i := 17) (N := some 22) (any_of HT_.out (by kernel_rfl)) ?_
   refine done_ (done_of HT_.out (by kernel_rfl)) ?_
   try go_wp2
   go_meet
   case rel => exact ⟨_, (true), (eW), H', ⟨by first | omega | exact Nat.le_refl _⟩, ⟨(bP BK175.out)⟩, ⟨bW⟩⟩
 case rest =>
  clear HC2
  try clear c1
  try clear p2
  try clear c5
  try clear c7
  try clear c7b0
  try clear c7b1
  try clear c8
  try clear c10
  try clear c11
  obtain ⟨kq, x22_1, rfl, HA, HJ1, BK175, HB⟩ := hcut
  cases kq with
  | zero => exact absurd HA.out (by simp [impl_IsAlphabet.j0])
  | succ kj1 =>
   have H := HA.out
   clear HA
   simp only [impl_IsAlphabet.j0] at H
   by_cases c13 : x22_1 = true
   ·subst c13
    have H1 : (some false) = some r := by rw [if_pos rfl] at H; exact H
    clear H
    have H := H1
    clear H1
    obtain rfl := Option.some.inj H
    go_wp2
    go_ret
    exact ⟨eW, bW⟩
   ·replace c13 := Bool.eq_false_iff.mpr c13
    subst c13
    have H1 : ((impl_converse.f kj1 l0_1).bind fun t179 => (impl_IsAlphabet.l0 kj1 t179 (t179.length : Int) 0 a0_0 l0_1)) = some r := by rw [if_neg (show ¬ (false = true) by decide)] at H; exact H
    clear H
    have H := H1
    clear H1
    replace H := Option.bind_eq_some_iff.mp H
    obtain ⟨t179, A140, H⟩ := H
    replace H : (impl_IsAlphabet.l0 kj1 t179 (t179.length : Int) 0 a0_0 l0_1) = some r := H
    have A14 := Aside0.mk A140
    clear A140
    have H' := Aside0.mk H
    clear H
    have hcz15_0 : wc.cell? ⟨gb175, 0, none⟩ = some (.int .i64 a0_0) := (blk_cell BK175.out 0).trans rfl
    have hcz15_1 : wc.cell? ⟨gb175, 1, none⟩ = some (.slice A0_1 l0_1.length c0_1) := (blk_cell BK175.out 1).trans rfl
    have hfz15_0 := blk_frozen BK175.out 0
    have hfz15_1 := blk_frozen BK175.out 1
    go_wp2_with (first | ((with_reducible refine gate_callee (f := 111) rfl ?_); refine goesS (some 25) Tryd.func111 #[.slice A0_1 l0_1.length c0_1] ?_; (with_reducible refine (impl_converse.calls kj1 _ _ l0_1 t179 _ ?side1 ?side2 A14.out (tabW HTab.out)).mono ?_); (case side1 => exact cP (Kd.C_below HR0_1.out HB.out)); (case side2 => exact HC0_1.out); rintro e w16 ⟨v180, rfl, ho0, hb⟩; refine ⟨_, rfl, ?_⟩; have n0_ := Aside0.mk (Kd.R_lower ho0 (below_size (bW))); have n1_ := Aside0.mk (blkB BK175.out hb); have n2_ := Aside0.mk (below_step (bW) hb); clear BK175 HB; have HO181 := n0_; have BK175 := n1_; have HB := n2_; clear n0_ n1_ n2_; (try clear hb); (try clear hb2); (try clear hk); (try clear hi); (try clear ho0); obtain ⟨Ao17, co17, eo17⟩ := Kd.R_slice HO181.out; subst eo17))
    go_loopg [27] kj1 (fun kq v27 w' => ∃ (x27_2 : Int), v27 = .int .i64 x27_2 ∧ Aside0 (impl_IsAlphabet.l0 kq t179 (t179.length : Int) x27_2 a0_0 l0_1 = some r) ∧ Aside0 (kq ≤ kj1) ∧ Aside0 (Kd.R (Kd.int .i64) 2 w' w.heap.size (fun _ => True) (.slice Ao17 t179.length co17) t179) ∧ Aside0 (w'.heap[gb175]? = some (.cells #[.int .i64 a0_0, (.slice A0_1 l0_1.length c0_1)] 29 (0, 0))) ∧ Aside0 (Below w.heap.size w w'))
    case atStart => exact ⟨(0), (eW), H', ⟨Nat.le_refl _⟩, ⟨(rP HO181.out)⟩, ⟨(bP BK175.out)⟩, ⟨bW⟩⟩
    case round =>
     clear H'
     try clear c1
     try clear p2
     try clear c5
     try clear c7
     try clear c7b0
     try clear c7b1
     try clear c8
     try clear c10
     try clear c11
     try clear c13
     try clear hcz15_0
     try clear hcz15_1
     try clear hfz15_0
     try clear hfz15_1
     try clear p2
     obtain ⟨x27_2, rfl, HA, HK2, HO_25, BK175, HB⟩ := hrel
     cases gk with
     | zero => exact absurd HA.out (by simp [impl_IsAlphabet.l0])
     | succ k2 =>
      have H := HA.out
      clear HA
      simp only [impl_IsAlphabet.l0] at H
      by_cases c18 : x27_2 < (t179.length : Int)
      ·rw [if_pos c18] at H
       have c18b0 : decide (x27_2 < (t179.length : Int)) = true := decide_eq_true c18
       clear c18
       by_cases c19 : 0 ≤ x27_2
       ·rw [if_pos c19] at H
        have c19b0 : decide (0 ≤ x27_2) = true := decide_eq_true c19
        clear c19
        by_cases c20 : x27_2 < (t179.length : Int)
        ·rw [if_pos c20] at H
         have c20b0 : decide (x27_2 < (t179.length : Int)) = true := decide_eq_true c20
         clear c20
         by_cases c21 : x27_2 < (l0_1.length : Int)
         ·rw [if_pos c21] at H
          have c21b0 : decide (x27_2 < (l0_1.length : Int)) = true := decide_eq_true c21
          clear c21
          by_cases c22 : (rd t179 x27_2) = (rd l0_1 x27_2)
          ·rw [if_pos c22] at H
           have c22b0 : ((rd t179 x27_2) == (rd l0_1 x27_2)) = true := beq_iff_eq.mpr c22
           have c22b1 : ((rd t179 x27_2) != (rd l0_1 x27_2)) = false := bne_eq_false_iff_eq.mpr c22
           clear c22
           replace H := Option.bind_eq_some_iff.mp H
           obtain ⟨t184, A230, H⟩ := H
           replace H : (if t184 = true then (impl_IsAlphabet.l0 k2 t179 (t179.length : Int) (wrap64 (x27_2 + 1)) a0_0 l0_1) else (some false)) = some r := H
           have A23 := Aside0.mk A230
           clear A230
           by_cases c24 : t184 = true
           ·subst c24
            have H1 : (impl_IsAlphabet.l0 k2 t179 (t179.length : Int) (wrap64 (x27_2 + 1)) a0_0 l0_1) = some r := by rw [if_pos rfl] at H; exact H
            clear H
            have H := H1
            clear H1
            have H' := Aside0.mk H
            clear H
            have p182 : 0 ≤ (x27_2 : Int) := ofD
            have q182 : x27_2 < (t179.length : Int) := ofD
            obtain ⟨ad182, e182, hx182_0⟩ := Kd.at_int (Kd.R_reads' HO_25.out).2.2 x27_2 p182 q182
            cases e182
            replace p182 := eq_true p182
            replace q182 := eq_true q182
            have hcz25_0 : wr.cell? ⟨gb175, 0, none⟩ = some (.int .i64 a0_0) := (blk_cell BK175.out 0).trans rfl
            have hcz25_1 : wr.cell? ⟨gb175, 1, none⟩ = some (.slice A0_1 l0_1.length c0_1) := (blk_cell BK175.out 1).trans rfl
            have hfz25_0 := blk_frozen BK175.out 0
            have hfz25_1 := blk_frozen BK175.out 1
            have p183 : 0 ≤ (x27_2 : Int) := ofD
            have q183 : x27_2 < (l0_1.length : Int) := ofD
            obtain ⟨ad183, e183, hx183_0⟩ := Kd.at_int HR0_1.out x27_2 p183 q183
            cases e183
            replace hx183_0 := (HB.out.cell (World.block_lt_of_cell? w _ hx183_0)).trans hx183_0
            replace p183 := eq_true p183
            replace q183 := eq_true q183
            go_wp2_with (first | (go_at_call 112; (with_reducible refine (impl_has.calls (rd t179 x27_2) x27_2 true _ A23.out).mono ?_); rintro e w' ⟨rfl, ⟨nd, rfl⟩⟩))
            go_roundg k2
            case measure => have := HJ1.out; have := HK2.out; omega
            case rel => exact ⟨(wrap64 (x27_2 + 1)), (eW), H', ⟨by have := HJ1.out; have := HK2.out; omega⟩, ⟨(rP HO_25.out)⟩, ⟨(bP BK175.out)⟩, ⟨bW⟩⟩
           ·replace c24 := Bool.eq_false_iff.mpr c24
            subst c24
            have H1 : (some false) = some r := by rw [if_neg (show ¬ (false = true) by decide)] at H; exact H
            clear H
            have H := H1
            clear H1
            obtain rfl := Option.some.inj H
            have p182 : 0 ≤ (x27_2 : Int) := ofD
            have q182 : x27_2 < (t179.length : Int) := ofD
            obtain ⟨ad182, e182, hx182_0⟩ := Kd.at_int (Kd.R_reads' HO_25.out).2.2 x27_2 p182 q182
            cases e182
            replace p182 := eq_true p182
            replace q182 := eq_true q182
            have hcz26_0 : wr.cell? ⟨gb175, 0, none⟩ = some (.int .i64 a0_0) := (blk_cell BK175.out 0).trans rfl
            have hcz26_1 : wr.cell? ⟨gb175, 1, none⟩ = some (.slice A0_1 l0_1.length c0_1) := (blk_cell BK175.out 1).trans rfl
            have hfz26_0 := blk_frozen BK175.out 0
            have hfz26_1 := blk_frozen BK175.out 1
            have p183 : 0 ≤ (x27_2 : Int) := ofD
            have q183 : x27_2 < (l0_1.length : Int) := ofD
            obtain ⟨ad183, e183, hx183_0⟩ := Kd.at_int HR0_1.out x27_2 p183 q183
            cases e183
            replace hx183_0 := (HB.out.cell (World.block_lt_of_cell? w _ hx183_0)).trans hx183_0
            replace p183 := eq_true p183
            replace q183 := eq_true q183
            go_wp2_with (first | (go_at_call 112; (with_reducible refine (impl_has.calls (rd t179 x27_2) x27_2 false _ A23.out).mono ?_); rintro e w' ⟨rfl, ⟨nd, rfl⟩⟩))
            go_ret
            exact ⟨eW, bW⟩
          ·rw [if_neg c22] at H
           have c22b0 : ((rd t179 x27_2) == (rd l0_1 x27_2)) = false := beq_eq_false_iff_ne.mpr c22
           have c22b1 : ((rd t179 x27_2) != (rd l0_1 x27_2)) = true := bne_iff_ne.mpr c22
           obtain rfl := Option.some.inj H
           have p182 : 0 ≤ (x27_2 : Int) := ofD
           have q182 : x27_2 < (t179.length : Int) := ofD
           obtain ⟨ad182, e182, hx182_0⟩ := Kd.at_int (Kd.R_reads' HO_25.out).2.2 x27_2 p182 q182
           cases e182
           replace p182 := eq_true p182
           replace q182 := eq_true q182
           have hcz27_0 : wr.cell? ⟨gb175, 0, none⟩ = some (.int .i64 a0_0) := (blk_cell BK175.out 0).trans rfl
           have hcz27_1 : wr.cell? ⟨gb175, 1, none⟩ = some (.slice A0_1 l0_1.length c0_1) := (blk_cell BK175.out 1).trans rfl
           have hfz27_0 := blk_frozen BK175.out 0
           have hfz27_1 := blk_frozen BK175.out 1
           have p183 : 0 ≤ (x27_2 : Int) := ofD
           have q183 : x27_2 < (l0_1.length : Int) := ofD
           obtain ⟨ad183, e183, hx183_0⟩ := Kd.at_int HR0_1.out x27_2 p183 q183
           cases e183
           replace hx183_0 := (HB.out.cell (World.block_lt_of_cell? w _ hx183_0)).trans hx183_0
           replace p183 := eq_true p183
           replace q183 := eq_true q183
           go_wp2
           go_ret
           exact ⟨eW, bW⟩
         ·rw [if_neg c21] at H
          exact absurd H (by simp)
        ·rw [if_neg c20] at H
         exact absurd H (by simp)
       ·rw [if_neg c19] at H
        exact absurd H (by simp)
      ·rw [if_neg c18] at H
       have c18b0 : decide (x27_2 < (t179.length : Int)) = false := decide_eq_false c18
       clear c18
       obtain rfl := Option.some.inj H
       go_wp2
       go_ret
       exact ⟨eW, bW⟩
/-! ### impl_isWord: function 59 -/
/-! ### cmp_isNaN_int64: function 157 -/
/-! ### cmp_Compare_int64: function 134 -/
/-! ### slices_Compare_int64_int64: function 84 -/
/-! ### impl_compareWords: function 60 -/
end Go.Proofs.YthbaocejgjpfoaaDoor.P
end M0
section M1
namespace Go.Proofs.YthbaocejgjpfoaaDoor.P
open Go.RowKit Go.Proofs.YthbaocejgjpfoaaDoor.Sh Go.Proofs.YthbaocejgjpfoaaDoorW.PrintWords Go.Proofs.YthbaocejgjpfoaaDoorW.PrintLast Go.Proofs.YthbaocejgjpfoaaDoorW.PrintMore
attribute [local go_sem] max2_int min2_int max_two min_two max_three min_three max_four min_four   -- for this text's walks alone
set_option linter.unusedVariables false
set_option linter.unusedSimpArgs false
/-! ### laws_FnExactIsFinite: function 3 -/
/-! ### laws_szTermS: function 20 -/
/-! ### spec_l13End: function 113 -/
mutual
def spec_l13End.j0 : Nat → List (S84) → Int → Bool → Option (Int)
 | 0, _, _, _ => none
 | k + 1, x0, x1, x12 => if x12 = true then (some (-1)) else (if 0 ≤ x1 then (if x1 < (x0.length : Int) then (if ((rd_T84 x0 x1).f0) = 3 then (spec_l13End.j1 k x0 x1 ((rd_T84 x0 x1).f0) (((rd_T84 x0 x1).f0) == 3)) else (spec_l13End.j1 k x0 x1 ((rd_T84 x0 x1).f0) (((rd_T84 x0 x1).f0) == 4))) else (none)) else (none))
def spec_l13End.j1 : Nat → List (S84) → Int → Int → Bool → Option (Int)
 | 0, _, _, _, _ => none
 | k + 1, x0, x1, x17, x18 => if x18 = true then ((spec_l13End.f k x0 (wrap64 (x1 + 1))).bind fun t237 => ((spec_l13End.f k x0 t237).bind fun t238 => (some t238))) else (if x17 = 5 then ((spec_l13End.f k x0 (wrap64 (x1 + 1))).bind fun t239 => (some t239)) else (some (wrap64 (x1 + 1))))
def spec_l13End.f : Nat → List (S84) → Int → Option (Int)
 | 0, _, _ => none
 | k + 1, l0, a1 => if a1 < 0 then (spec_l13End.j0 k l0 a1 true) else (spec_l13End.j0 k l0 a1 (decide (a1 ≥ (l0.length : Int))))
end
set_option maxHeartbeats 8000000 in
set_option maxRecDepth 100000 in
theorem spec_l13End.calls (k : Nat) : ∀ (A0 : Option Addr) (c0 : Nat) (l0 : List (S84)) (a1 : Int) (r : Int) (w : World) (hr0 : Kd.C k84 w A0 l0.length l0) (hc0 : l0.length ≤ c0) (h : spec_l13End.f k l0 a1 = some r),
  Calls Tryd.prog 113 #[.slice A0 l0.length c0, .int .i64 a1] w fun e w' => e = .returned (.int .i64 r) ∧ Drawn0 w w' := by
 induction k using Nat.strongRecOn with
 | _ k ih =>
 intro A0 c0 l0 a1 r w hr0 hc0 h
 cases k with
 | zero => exact absurd h (by simp [spec_l13End.f])
 | succ k =>
 simp only [spec_l13End.f] at h
 have HR0 := Aside0.mk hr0
 have HC0 := Aside0.mk hc0
 clear hr0 hc0
 have H : (if a1 < 0 then (spec_l13End.j0 k l0 a1 true) else (spec_l13End.j0 k l0 a1 (decide (a1 ≥ (l0.length : Int))))) = some r := h
 clear h
 have HC3 := Aside0.mk H
 clear H
 go_enter Tryd.func113, Tryd.ntmps113
 go_upto_region 1 with (fail)
 go_cut [12] (fun v12 wc => ∃ (kq : Nat) (x12_2 : Bool), v12 = .bool x12_2 ∧ Aside0 (spec_l13End.j0 kq l0 a1 x12_2 = some r) ∧ Aside0 (kq ≤ k) ∧ Drawn0 w wc)
 case first =>
  have H := HC3.out
  clear HC3
  by_cases c4 : a1 < 0
  ·rw [if_pos c4] at H
   have c4b0 : decide (a1 < 0) = true := decide_eq_true c4
   clear c4
   (first | rw [c4b0] | (simp only [i64_w, i32_w]; rw [c4b0]) | skip)
   have H' := Aside0.mk H
   clear H
   go_wp2
   go_meet
   case rel => exact ⟨_, (true), (eW), H', ⟨by first | omega | exact Nat.le_refl _⟩, by repeat (first | exact Drawn0.refl _ | apply Drawn0.step)⟩
  ·rw [if_neg c4] at H
   have c4b0 : decide (a1 < 0) = false := decide_eq_false c4
   clear c4
   (first | rw [c4b0] | (simp only [i64_w, i32_w]; rw [c4b0]) | skip)
   have H' := Aside0.mk H
   clear H
   go_wp2
   go_meet
   case rel => exact ⟨_, (decide (a1 ≥ (l0.length : Int))), (eW), H', ⟨by first | omega | exact Nat.le_refl _⟩, by repeat (first | exact Drawn0.refl _ | apply Drawn0.step)⟩
 case rest =>
  clear HC3
  try clear c1
  try clear p2
  try clear c4
  try clear c4b0
  obtain ⟨kq, x12_2, rfl, HA, HJ2, ⟨mc2, rfl⟩⟩ := hcut
  cases kq with
  | zero => exact absurd HA.out (by simp [spec_l13End.j0])
  | succ kj2 =>
   have H := HA.out
   clear HA
   simp only [spec_l13End.j0] at H
   by_cases c5 : x12_2 = true
   ·subst c5
    have H1 : (some (-1)) = some r := by rw [if_pos rfl] at H; exact H
    clear H
    have H := H1
    clear H1
    obtain rfl := Option.some.inj H
    go_wp2
    go_ret
    exact ⟨eW, by repeat (first | exact Drawn0.refl _ | apply Drawn0.step)⟩
   ·replace c5 := Bool.eq_false_iff.mpr c5
    subst c5
    have H1 : (if 0 ≤ a1 then (if a1 < (l0.length : Int) then (if ((rd_T84 l0 a1).f0) = 3 then (spec_l13End.j1 kj2 l0 a1 ((rd_T84 l0 a1).f0) (((rd_T84 l0 a1).f0) == 3)) else (spec_l13End.j1 kj2 l0 a1 ((rd_T84 l0 a1).f0) (((rd_T84 l0 a1).f0) == 4))) else (none)) else (none)) = some r := by rw [if_neg (show ¬ (false = true) by decide)] at H; exact H
    clear H
    have H := H1
    clear H1
    by_cases c6 : 0 ≤ a1
    ·rw [if_pos c6] at H
     have c6b0 : decide (0 ≤ a1) = true := decide_eq_true c6
     clear c6
     by_cases c7 : a1 < (l0.length : Int)
     ·rw [if_pos c7] at H
      have c7b0 : decide (a1 < (l0.length : Int)) = true := decide_eq_true c7
      clear c7
      have HC8 := Aside0.mk H
      clear H
      have p236 : 0 ≤ (a1 : Int) := ofD
      have q236 : a1 < (l0.length : Int) := ofD
      obtain ⟨ad236, e236, hx236_0, hx236_1⟩ := at_T84 HR0.out a1 p236 q236
      cases e236
      replace p236 := eq_true p236
      replace q236 := eq_true q236
      go_upto_if 18 with (fail)
      go_cut [18] (fun v18 wc => ∃ (kq : Nat) (x18_7 : Bool), v18 = .bool x18_7 ∧ Aside0 (spec_l13End.j1 kq l0 a1 ((rd_T84 l0 a1).f0) x18_7 = some r) ∧ Aside0 (kq ≤ kj2) ∧ Drawn0 w wc)
      case first =>
       have H := HC8.out
       clear HC8
       by_cases c9 : ((rd_T84 l0 a1).f0) = 3
       ·rw [if_pos c9] at H
        have c9b0 : (((rd_T84 l0 a1).f0) == 3) = true := beq_iff_eq.mpr c9
        have c9b1 : (((rd_T84 l0 a1).f0) != 3) = false := bne_eq_false_iff_eq.mpr c9
        clear c9
        (first | rw [c9b0] | (simp only [i64_w, i32_w]; rw [c9b0]) | skip)
        have H' := Aside0.mk H
        clear H
        go_wp2
        go_meet
        case rel => exact ⟨_, ((((rd_T84 l0 a1).f0) == 3)), (eW), H', ⟨by have := HJ2.out; first | omega | exact Nat.le_refl _⟩, by repeat (first | exact Drawn0.refl _ | apply Drawn0.step)⟩
       ·rw [if_neg c9] at H
        have c9b0 : (((rd_T84 l0 a1).f0) == 3) = false := beq_eq_false_iff_ne.mpr c9
        have c9b1 : (((rd_T84 l0 a1).f0) != 3) = true := bne_iff_ne.mpr c9
        (first | rw [c9b0] | (simp only [i64_w, i32_w]; rw [c9b0]) | skip)
        have H' := Aside0.mk H
        clear H
        go_wp2
        go_meet
        case rel => exact ⟨_, ((((rd_T84 l0 a1).f0) == 4)), (eW), H', ⟨by have := HJ2.out; first | omega | exact Nat.le_refl _⟩, by repeat (first | exact Drawn0.refl _ | apply Drawn0.step)⟩
      case rest =>
       clear HC8
       try clear c1
       try clear c2
       try clear p2
       try clear q2
       try clear hx2
       try clear c4
       try clear c4b0
       try clear c5
       try clear c6
       try clear c6b0
       try clear c7
       try clear c7b0
       try clear c9
       try clear c9b0
       try clear c9b1
       try clear hx236_0
       try clear hx236_1
       try clear p2
       try clear p236
       try clear q236
       obtain ⟨kq, x18_7, rfl, HA, HJ7, ⟨mc7, rfl⟩⟩ := hcut
       cases kq with
       | zero => exact absurd HA.out (by simp [spec_l13End.j1])
       | succ kj7 =>
        have H := HA.out
        clear HA
        simp only [spec_l13End.j1] at H
        by_cases c10 : x18_7 = true
        ·subst c10
         have H1 : ((spec_l13End.f kj7 l0 (wrap64 (a1 + 1))).bind fun t237 => ((spec_l13End.f kj7 l0 t237).bind fun t238 => (some t238))) = some r := by rw [if_pos rfl] at H; exact H
         clear H
         have H := H1
         clear H1
         replace H := Option.bind_eq_some_iff.mp H
         obtain ⟨t237, A110, H⟩ := H
         replace H : ((spec_l13End.f kj7 l0 t237).bind fun t238 => (some t238)) = some r := H
         have A11 := Aside0.mk A110
         clear A110
         replace H := Option.bind_eq_some_iff.mp H
         obtain ⟨t238, A120, H⟩ := H
         replace H : (some t238) = some r := H
         have A12 := Aside0.mk A120
         clear A120
         obtain rfl := Option.some.inj H
         go_wp2_with (first | ((with_reducible refine gate_callee (f := 113) rfl ?_); refine goesS (some 25) Tryd.func113 #[.slice (some ad236) l0.length c0, .int .i64 (wrap64 (a1 + 1))] ?_; (with_reducible refine (ih kj7 (by have := HJ2.out; have := HJ7.out; omega) _ _ l0 (wrap64 (a1 + 1)) t237 _ ?side1 ?side2 A11.out).mono ?_); (case side1 => exact cP HR0.out); (case side2 => exact HC0.out); rintro e w' ⟨rfl, ⟨nd, rfl⟩⟩; refine ⟨_, rfl, ?_⟩) | ((with_reducible refine gate_callee (f := 113) rfl ?_); refine goesS (some 26) Tryd.func113 #[.slice (some ad236) l0.length c0, .int .i64 t237] ?_; (with_reducible refine (ih kj7 (by have := HJ2.out; have := HJ7.out; omega) _ _ l0 t237 t238 _ ?side1 ?side2 A12.out).mono ?_); (case side1 => exact cP HR0.out); (case side2 => exact HC0.out); rintro e w' ⟨rfl, ⟨nd, rfl⟩⟩; refine ⟨_, rfl, ?_⟩))
         go_ret
         exact ⟨eW, by repeat (first | exact Drawn0.refl _ | apply Drawn0.step)⟩
        ·replace c10 := Bool.eq_false_iff.mpr c10
         subst c10
         have H1 : (if ((rd_T84 l0 a1).f0) = 5 then ((spec_l13End.f kj7 l0 (wrap64 (a1 + 1))).bind fun t239 => (some t239)) else (some (wrap64 (a1 + 1)))) = some r := by rw [if_neg (show ¬ (false = true) by decide)] at H; exact H
         clear H
         have H := H1
         clear H1
         by_cases c13 : ((rd_T84 l0 a1).f0) = 5
         ·rw [if_pos c13] at H
          have c13b0 : (((rd_T84 l0 a1).f0) == 5) = true := beq_iff_eq.mpr c13
          have c13b1 : (((rd_T84 l0 a1).f0) != 5) = false := bne_eq_false_iff_eq.mpr c13
          clear c13
          replace H := Option.bind_eq_some_iff.mp H
          obtain ⟨t239, A140, H⟩ := H
          replace H : (some t239) = some r := H
          have A14 := Aside0.mk A140
          clear A140
          obtain rfl := Option.some.inj H
          go_wp2_with (first | ((with_reducible refine gate_callee (f := 113) rfl ?_); refine goesS (some 32) Tryd.func113 #[.slice (some ad236) l0.length c0, .int .i64 (wrap64 (a1 + 1))] ?_; (with_reducible refine (ih kj7 (by have := HJ2.out; have := HJ7.out; omega) _ _ l0 (wrap64 (a1 + 1)) t239 _ ?side1 ?side2 A14.out).mono ?_); (case side1 => exact cP HR0.out); (case side2 => exact HC0.out); rintro e w' ⟨rfl, ⟨nd, rfl⟩⟩; refine ⟨_, rfl, ?_⟩))
          go_ret
          exact ⟨eW, by repeat (first | exact Drawn0.refl _ | apply Drawn0.step)⟩
         ·rw [if_neg c13] at H
          have c13b0 : (((rd_T84 l0 a1).f0) == 5) = false := beq_eq_false_iff_ne.mpr c13
          have c13b1 : (((rd_T84 l0 a1).f0) != 5) = true := bne_iff_ne.mpr c13
          obtain rfl := Option.some.inj H
          go_wp2
          go_ret
          exact ⟨eW, by repeat (first | exact Drawn0.refl _ | apply Drawn0.step)⟩
     ·rw [if_neg c7] at H
      exact absurd H (by simp)
    ·rw [if_neg c6] at H
     exact absurd H (by simp)
end Go.Proofs.YthbaocejgjpfoaaDoor.P
end M1
section M2
namespace Go.Proofs.YthbaocejgjpfoaaDoor.P
open Go.RowKit Go.Proofs.YthbaocejgjpfoaaDoor.Sh Go.Proofs.YthbaocejgjpfoaaDoorW.PrintWords Go.Proofs.YthbaocejgjpfoaaDoorW.PrintLast Go.Proofs.YthbaocejgjpfoaaDoorW.PrintMore
attribute [local go_sem] max2_int min2_int max_two min_two max_three min_three max_four min_four   -- for this text's walks alone
set_option linter.unusedVariables false
set_option linter.unusedSimpArgs false
/-! ### spec_IsExpression: function 61 -/
mutual
def spec_IsExpression.j0 : Nat → List (S84) → Bool → Int → List Int → Option (Bool)
 | 0, _, _, _, _ => none
 | k + 1, x1, x19, x241000, x241001 => if x19 = true then (some false) else (spec_IsExpression.l0 k x1 0 x241000 x241001)
def spec_IsExpression.l0 : Nat → List (S84) → Int → Int → List Int → Option (Bool)
 | 0, _, _, _, _ => none
 | k + 1, x1, x5, x241000, x241001 => if x5 < (x1.length : Int) then (if 0 ≤ x5 then (if ((rd_T84 x1 x5).f0) = 2 then (spec_IsExpression.j2 k x1 x5 (wrap64 (x241000 - 1)) x241000 x241001) else (spec_IsExpression.j2 k x1 x5 0 x241000 x241001)) else (none)) else ((spec_l13End.f k x1 0).bind fun t242 => (some (t242 == (x1.length : Int))))
def spec_IsExpression.j2 : Nat → List (S84) → Int → Int → Int → List Int → Option (Bool)
 | 0, _, _, _, _, _ => none
 | k + 1, x1, x5, x6, x241000, x241001 => if 0 ≤ x5 then (if x5 < (x1.length : Int) then ((spec_l01In.f ((rd_T84 x1 x5).f0) 0 5).bind fun t245 => (if t245 = true then ((spec_l01In.f ((rd_T84 x1 x5).f1) 0 x6).bind fun t247 => (if t247 = true then (spec_IsExpression.l0 k x1 (wrap64 (x5 + 1)) x241000 x241001) else (some false))) else (some false))) else (none)) else (none)
end
def spec_IsExpression.f (k : Nat) (a0_0 : Int) (l0_1 : List Int) (l1 : List (S84)) : Option (Bool) := (spec_l02Is.f k a0_0 l0_1).bind fun t241 => (if t241 = true then (if (l1.length : Int) < 1 then (spec_IsExpression.j0 k l1 true a0_0 l0_1) else (spec_IsExpression.j0 k l1 (decide ((l1.length : Int) > 24)) a0_0 l0_1)) else (spec_IsExpression.j0 k l1 true a0_0 l0_1))
set_option maxHeartbeats 8000000 in
set_option maxRecDepth 100000 in
theorem spec_IsExpression.calls (k : Nat) (a0_0 : Int) (A0_1 : Option Addr) (c0_1 : Nat) (l0_1 : List Int) (A1 : Option Addr) (c1 : Nat) (l1 : List (S84)) (r : Bool) (w : World) (hr0_1 : Kd.C (Kd.int .i64) w A0_1 l0_1.length l0_1) (hc0_1 : l0_1.length ≤ c0_1) (hr1 : Kd.C k84 w A1 l1.length l1) (hc1 : l1.length ≤ c1) (h : spec_IsExpression.f k a0_0 l0_1 l1 = some r) :
  Calls Tryd.prog 61 #[.agg #[.int .i64 a0_0, .slice A0_1 l0_1.length c0_1], .slice A1 l1.length c1] w fun e w' => e = .returned (.bool r) ∧ Below w.heap.size w w' := by
 have hu29 := Tryd.underlying29
 have HR0_1 := Aside0.mk hr0_1
 have HC0_1 := Aside0.mk hc0_1
 clear hr0_1 hc0_1
 have HR1 := Aside0.mk hr1
 have HC1 := Aside0.mk hc1
 clear hr1 hc1
 have HB := Aside0.mk (Below.refl w.heap.size w)
 have H : ((spec_l02Is.f k a0_0 l0_1).bind fun t241 => (if t241 = true then (if (l1.length : Int) < 1 then (spec_IsExpression.j0 k l1 true a0_0 l0_1) else (spec_IsExpression.j0 k l1 (decide ((l1.length : Int) > 24)) a0_0 l0_1)) else (spec_IsExpression.j0 k l1 true a0_0 l0_1))) = some r := h
 clear h
 have HC3 := Aside0.mk H
 clear H
 go_enter Tryd.func61, Tryd.ntmps61
 go_upto_region 1 with (first | ((with_reducible refine gate_dst (N := 2) rfl ?_); (try (refine gate_guard (by rfl) ?_; dsimp only)); refine boxS (N := 2) (cs := #[.int .i64 a0_0, .slice A0_1 l0_1.length c0_1]) (t := 29) ?_; intro gb240 hg w4 hbox hb; have n0_ := Aside0.mk (below_step (bW) hb); have n1_ := Aside0.mk (hbox); have n2_ := geW (w := w) hg; have n3_ := geW (w := w) hg; clear HB; have HB := n0_; have BK240 := n1_; have GW240 := n2_; have GE240 := n3_; clear n0_ n1_ n2_ n3_ hb hbox hg))
 (try simp only [Act.put, List.setIfInBounds_toArray, List.set_cons_zero, List.set_cons_succ])
 go_cut [19] (fun v19 wc => ∃ (kq : Nat) (x19_2 : Bool), v19 = .bool x19_2 ∧ Aside0 (spec_IsExpression.j0 kq l1 x19_2 a0_0 l0_1 = some r) ∧ Aside0 (kq ≤ k) ∧ Aside0 (wc.heap[gb240]? = some (.cells #[.int .i64 a0_0, (.slice A0_1 l0_1.length c0_1)] 29 (0, 0))) ∧ Aside0 (Below w.heap.size w wc))
 case first =>
  have H := HC3.out
  clear HC3
  replace H := Option.bind_eq_some_iff.mp H
  obtain ⟨t241, A50, H⟩ := H
  replace H : (if t241 = true then (if (l1.length : Int) < 1 then (spec_IsExpression.j0 k l1 true a0_0 l0_1) else (spec_IsExpression.j0 k l1 (decide ((l1.length : Int) > 24)) a0_0 l0_1)) else (spec_IsExpression.j0 k l1 true a0_0 l0_1)) = some r := H
  have A5 := Aside0.mk A50
  clear A50
  by_cases c6 : t241 = true
  ·subst c6
   have H1 : (if (l1.length : Int) < 1 then (spec_IsExpression.j0 k l1 true a0_0 l0_1) else (spec_IsExpression.j0 k l1 (decide ((l1.length : Int) > 24)) a0_0 l0_1)) = some r := by rw [if_pos rfl] at H; exact H
   clear H
   have H := H1
   clear H1
   by_cases c7 : (l1.length : Int) < 1
   ·rw [if_pos c7] at H
    have c7b0 : decide ((l1.length : Int) < 1) = true := decide_eq_true c7
    have c7b1 : decide (l1.length < 1) = true := decide_eq_true (by omega)
    clear c7
    (first | rw [c7b0] | (simp only [i64_w, i32_w]; rw [c7b0]) | skip)
    have H' := Aside0.mk H
    clear H
    have hcz8_0 : w4.cell? ⟨gb240, 0, none⟩ = some (.int .i64 a0_0) := (blk_cell BK240.out 0).trans rfl
    have hcz8_1 : w4.cell? ⟨gb240, 1, none⟩ = some (.slice A0_1 l0_1.length c0_1) := (blk_cell BK240.out 1).trans rfl
    have hfz8_0 := blk_frozen BK240.out 0
    have hfz8_1 := blk_frozen BK240.out 1
    go_wp2_with (first | ((with_reducible refine gate_callee (f := 56) rfl ?_); refine goesS (some 8) Tryd.func56 #[.agg #[.int .i64 a0_0, .slice A0_1 l0_1.length c0_1]] ?_; (with_reducible refine (spec_l02Is.calls k a0_0 _ _ l0_1 true _ ?side1 ?side2 A5.out).mono ?_); (case side1 => exact cP (Kd.C_below HR0_1.out HB.out)); (case side2 => exact HC0_1.out); rintro e w9 ⟨rfl, hb⟩; refine ⟨_, rfl, ?_⟩; have n0_ := Aside0.mk (blkB BK240.out hb); have n1_ := Aside0.mk (below_step (bW) hb); clear BK240 HB; have BK240 := n0_; have HB := n1_; clear n0_ n1_; (try clear hb); (try clear hb2); (try clear hk); (try clear hi)))
    go_meet
    case rel => exact ⟨_, (true), (eW), H', ⟨by first | omega | exact Nat.le_refl _⟩, ⟨(bP BK240.out)⟩, ⟨bW⟩⟩
   ·rw [if_neg c7] at H
    have c7b0 : decide ((l1.length : Int) < 1) = false := decide_eq_false c7
    have c7b1 : decide (l1.length < 1) = false := decide_eq_false (by omega)
    clear c7
    (first | rw [c7b0] | (simp only [i64_w, i32_w]; rw [c7b0]) | skip)
    have H' := Aside0.mk H
    clear H
    have hcz10_0 : w4.cell? ⟨gb240, 0, none⟩ = some (.int .i64 a0_0) := (blk_cell BK240.out 0).trans rfl
    have hcz10_1 : w4.cell? ⟨gb240, 1, none⟩ = some (.slice A0_1 l0_1.length c0_1) := (blk_cell BK240.out 1).trans rfl
    have hfz10_0 := blk_frozen BK240.out 0
    have hfz10_1 := blk_frozen BK240.out 1
    go_wp2_with (first | ((with_reducible refine gate_callee (f := 56) rfl ?_); refine goesS (some 8) Tryd.func56 #[.agg #[.int .i64 a0_0, .slice A0_1 l0_1.length c0_1]] ?_; (with_reducible refine (spec_l02Is.calls k a0_0 _ _ l0_1 true _ ?side1 ?side2 A5.out).mono ?_); (case side1 => exact cP (Kd.C_below HR0_1.out HB.out)); (case side2 => exact HC0_1.out); rintro e w11 ⟨rfl, hb⟩; refine ⟨_, rfl, ?_⟩; have n0_ := Aside0.mk (blkB BK240.out hb); have n1_ := Aside0.mk (below_step (bW) hb); clear BK240 HB; have BK240 := n0_; have HB := n1_; clear n0_ n1_; (try clear hb); (try clear hb2); (try clear hk); (try clear hi)))
    go_meet
    case rel => exact ⟨_, (decide ((l1.length : Int) > 24)), (eW), H', ⟨by first | omega | exact Nat.le_refl _⟩, ⟨(bP BK240.out)⟩, ⟨bW⟩⟩
  ·replace c6 := Bool.eq_false_iff.mpr c6
   subst c6
   have H1 : (spec_IsExpression.j0 k l1 true a0_0 l0_1) = some r := by rw [if_neg (show ¬ (false = true) by decide)] at H; exact H
   clear H
   have H := H1
   clear H1
   have H' := Aside0.mk H
   clear H
   have hcz12_0 : w4.cell? ⟨gb240, 0, none⟩ = some (.int .i64 a0_0) := (blk_cell BK240.out 0).trans rfl
   have hcz12_1 : w4.cell? ⟨gb240, 1, none⟩ = some (.slice A0_1 l0_1.length c0_1) := (blk_cell BK240.out 1).trans rfl
   have hfz12_0 := blk_frozen BK240.out 0
   have hfz12_1 := blk_frozen BK240.out 1
   go_wp2_with (first | ((with_reducible refine gate_callee (f := 56) rfl ?_); refine goesS (some 8) Tryd.func56 #[.agg #[.int .i64 a0_0, .slice A0_1 l0_1.length c0_1]] ?_; (with_reducible refine (spec_l02Is.calls k a0_0 _ _ l0_1 false _ ?side1 ?side2 A5.out).mono ?_); (case side1 => exact cP (Kd.C_below HR0_1.out HB.out)); (case side2 => exact HC0_1.out); rintro e w13 ⟨rfl, hb⟩; refine ⟨_, rfl, ?_⟩; have n0_ := Aside0.mk (blkB BK240.out hb); have n1_ := Aside0.mk (below_step (bW) hb); clear BK240 HB; have BK240 := n0_; have HB := n1_; clear n0_ n1_; (try clear hb); (try clear hb2); (try clear hk); (try clear hi)))
   go_meet
   case rel => exact ⟨_, (true), (eW), H', ⟨by first | omega | exact Nat.le_refl _⟩, ⟨(bP BK240.out)⟩, ⟨bW⟩⟩
 case rest =>
  clear HC3
  try clear c1
  try clear p2
  try clear c5
  try clear c6
  try clear c7
  try clear c7b0
  try clear c7b1
  try clear hcz10_0
  try clear hcz10_1
  try clear hcz12_0
  try clear hcz12_1
  try clear hcz8_0
  try clear hcz8_1
  try clear hfz10_0
  try clear hfz10_1
  try clear hfz12_0
  try clear hfz12_1
  try clear hfz8_0
  try clear hfz8_1
  obtain ⟨kq, x19_2, rfl, HA, HJ2, BK240, HB⟩ := hcut
  cases kq with
  | zero => exact absurd HA.out (by simp [spec_IsExpression.j0])
  | succ kj2 =>
   have H := HA.out
   clear HA
   simp only [spec_IsExpression.j0] at H
   by_cases c14 : x19_2 = true
   ·subst c14
    have H1 : (some false) = some r := by rw [if_pos rfl] at H; exact H
    clear H
    have H := H1
    clear H1
    obtain rfl := Option.some.inj H
    go_wp2
    go_ret
    exact ⟨eW, bW⟩
   ·replace c14 := Bool.eq_false_iff.mpr c14
    subst c14
    have H1 : (spec_IsExpression.l0 kj2 l1 0 a0_0 l0_1) = some r := by rw [if_neg (show ¬ (false = true) by decide)] at H; exact H
    clear H
    have H := H1
    clear H1
    have H' := Aside0.mk H
    clear H
    go_wp2
    go_loopg [5] kj2 (fun kq v5 w' => ∃ (x5_2 : Int), v5 = .int .i64 x5_2 ∧ Aside0 (spec_IsExpression.l0 kq l1 x5_2 a0_0 l0_1 = some r) ∧ Aside0 (kq ≤ kj2) ∧ Aside0 (w'.heap[gb240]? = some (.cells #[.int .i64 a0_0, (.slice A0_1 l0_1.length c0_1)] 29 (0, 0))) ∧ Aside0 (Below w.heap.size w w'))
    case atStart => exact ⟨(0), (eW), H', ⟨Nat.le_refl _⟩, ⟨(bP BK240.out)⟩, ⟨bW⟩⟩
    case round =>
     clear H'
     try clear c1
     try clear p2
     try clear c5
     try clear c6
     try clear c7
     try clear c7b0
     try clear c7b1
     try clear c14
     try clear hcz10_0
     try clear hcz10_1
     try clear hcz12_0
     try clear hcz12_1
     try clear hcz8_0
     try clear hcz8_1
     try clear hfz10_0
     try clear hfz10_1
     try clear hfz12_0
     try clear hfz12_1
     try clear hfz8_0
     try clear hfz8_1
     try clear p2
     obtain ⟨x5_2, rfl, HA, HK2, BK240, HB⟩ := hrel
     cases gk with
     | zero => exact absurd HA.out (by simp [spec_IsExpression.l0])
     | succ k2 =>
      have H := HA.out
      clear HA
      simp only [spec_IsExpression.l0] at H
      by_cases c15 : x5_2 < (l1.length : Int)
      ·rw [if_pos c15] at H
       have c15b0 : decide (x5_2 < (l1.length : Int)) = true := decide_eq_true c15
       clear c15
       by_cases c16 : 0 ≤ x5_2
       ·rw [if_pos c16] at H
        have c16b0 : decide (0 ≤ x5_2) = true := decide_eq_true c16
        clear c16
        have HC17 := Aside0.mk H
        clear H
        have p243 : 0 ≤ (x5_2 : Int) := ofD
        have q243 : x5_2 < (l1.length : Int) := ofD
        obtain ⟨ad243, e243, hx243_0, hx243_1⟩ := at_T84 HR1.out x5_2 p243 q243
        cases e243
        replace hx243_0 := (HB.out.cell (World.block_lt_of_cell? w _ hx243_0)).trans hx243_0
        replace hx243_1 := (HB.out.cell (World.block_lt_of_cell? w _ hx243_1)).trans hx243_1
        replace p243 := eq_true p243
        replace q243 := eq_true q243
        go_upto_if 31 with (fail)
        go_cut [6] (fun v6 wc => ∃ (kq : Nat) (x6_16 : Int), v6 = .int .i64 x6_16 ∧ Aside0 (spec_IsExpression.j2 kq l1 x5_2 x6_16 a0_0 l0_1 = some r) ∧ Aside0 (kq ≤ k2) ∧ Aside0 (wc.heap[gb240]? = some (.cells #[.int .i64 a0_0, (.slice A0_1 l0_1.length c0_1)] 29 (0, 0))) ∧ Aside0 (Below w.heap.size w wc))
        case first =>
         have H := HC17.out
         clear HC17
         by_cases c18 : ((rd_T84 l1 x5_2).f0) = 2
         ·rw [if_pos c18] at H
          have c18b0 : (((rd_T84 l1 x5_2).f0) == 2) = true := beq_iff_eq.mpr c18
          have c18b1 : (((rd_T84 l1 x5_2).f0) != 2) = false := bne_eq_false_iff_eq.mpr c18
          clear c18
          (first | rw [c18b0] | (simp only [i64_w, i32_w]; rw [c18b0]) | skip)
          have H' := Aside0.mk H
          clear H
          have hcz19_0 : wr.cell? ⟨gb240, 0, none⟩ = some (.int .i64 a0_0) := (blk_cell BK240.out 0).trans rfl
          have hcz19_1 : wr.cell? ⟨gb240, 1, none⟩ = some (.slice A0_1 l0_1.length c0_1) := (blk_cell BK240.out 1).trans rfl
          have hfz19_0 := blk_frozen BK240.out 0
          have hfz19_1 := blk_frozen BK240.out 1
          go_wp2
          go_meet
          case rel => exact ⟨_, (wrap64 (a0_0 - 1)), (eW), H', ⟨by have := HJ2.out; have := HK2.out; first | omega | exact Nat.le_refl _⟩, ⟨(bP BK240.out)⟩, ⟨bW⟩⟩
         ·rw [if_neg c18] at H
          have c18b0 : (((rd_T84 l1 x5_2).f0) == 2) = false := beq_eq_false_iff_ne.mpr c18
          have c18b1 : (((rd_T84 l1 x5_2).f0) != 2) = true := bne_iff_ne.mpr c18
          (first | rw [c18b0] | (simp only [i64_w, i32_w]; rw [c18b0]) | skip)
          have H' := Aside0.mk H
          clear H
          go_wp2
          go_meet
          case rel => exact ⟨_, (0), (eW), H', ⟨by have := HJ2.out; have := HK2.out; first | omega | exact Nat.le_refl _⟩, ⟨(bP BK240.out)⟩, ⟨bW⟩⟩
        case rest =>
         clear HC17
         try clear c1
         try clear p2
         try clear q2
         try clear hx2
         try clear c5
         try clear c6
         try clear p6
         try clear c7
         try clear c7b0
         try clear c7b1
         try clear c14
         try clear c15
         try clear c15b0
         try clear c16
         try clear c16b0
         try clear c18
         try clear c18b0
         try clear c18b1
         try clear hcz10_0
         try clear hcz10_1
         try clear hcz12_0
         try clear hcz12_1
         try clear hcz19_0
         try clear hcz19_1
         try clear hcz8_0
         try clear hcz8_1
         try clear hfz10_0
         try clear hfz10_1
         try clear hfz12_0
         try clear hfz12_1
         try clear hfz19_0
         try clear hfz19_1
         try clear hfz8_0
         try clear hfz8_1
         try clear hx243_0
         try clear hx243_1
         try clear p2
         try clear p243
         try clear q243
         obtain ⟨kq, x6_16, rfl, HA, HJ16, BK240, HB⟩ := hcut
         cases kq with
         | zero => exact absurd HA.out (by simp [spec_IsExpression.j2])
         | succ kj16 =>
          have H := HA.out
          clear HA
          simp only [spec_IsExpression.j2] at H
          by_cases c20 : 0 ≤ x5_2
          ·rw [if_pos c20] at H
           have c20b0 : decide (0 ≤ x5_2) = true := decide_eq_true c20
           clear c20
           by_cases c21 : x5_2 < (l1.length : Int)
           ·rw [if_pos c21] at H
            have c21b0 : decide (x5_2 < (l1.length : Int)) = true := decide_eq_true c21
            clear c21
            replace H := Option.bind_eq_some_iff.mp H
            obtain ⟨t245, A220, H⟩ := H
            replace H : (if t245 = true then ((spec_l01In.f ((rd_T84 l1 x5_2).f1) 0 x6_16).bind fun t247 => (if t247 = true then (spec_IsExpression.l0 kj16 l1 (wrap64 (x5_2 + 1)) a0_0 l0_1) else (some false))) else (some false)) = some r := H
            have A22 := Aside0.mk A220
            clear A220
            by_cases c23 : t245 = true
            ·subst c23
             have H1 : ((spec_l01In.f ((rd_T84 l1 x5_2).f1) 0 x6_16).bind fun t247 => (if t247 = true then (spec_IsExpression.l0 kj16 l1 (wrap64 (x5_2 + 1)) a0_0 l0_1) else (some false))) = some r := by rw [if_pos rfl] at H; exact H
             clear H
             have H := H1
             clear H1
             replace H := Option.bind_eq_some_iff.mp H
             obtain ⟨t247, A240, H⟩ := H
             replace H : (if t247 = true then (spec_IsExpression.l0 kj16 l1 (wrap64 (x5_2 + 1)) a0_0 l0_1) else (some false)) = some r := H
             have A24 := Aside0.mk A240
             clear A240
             by_cases c25 : t247 = true
             ·subst c25
              have H1 : (spec_IsExpression.l0 kj16 l1 (wrap64 (x5_2 + 1)) a0_0 l0_1) = some r := by rw [if_pos rfl] at H; exact H
              clear H
              have H := H1
              clear H1
              have H' := Aside0.mk H
              clear H
              have p244 : 0 ≤ (x5_2 : Int) := ofD
              have q244 : x5_2 < (l1.length : Int) := ofD
              obtain ⟨ad244, e244, hx244_0, hx244_1⟩ := at_T84 HR1.out x5_2 p244 q244
              obtain rfl : ad243 = ad244 := (by injection e244)
              replace hx244_0 := (HB.out.cell (World.block_lt_of_cell? w _ hx244_0)).trans hx244_0
              replace hx244_1 := (HB.out.cell (World.block_lt_of_cell? w _ hx244_1)).trans hx244_1
              replace p244 := eq_true p244
              replace q244 := eq_true q244
              go_wp2_with (first | ((with_reducible refine gate_callee (f := 74) rfl ?_); refine goesS (some 40) Tryd.func74 #[.int .i64 ((rd_T84 l1 x5_2).f0), .int .i64 0, .int .i64 5] ?_; (with_reducible refine (spec_l01In.calls ((rd_T84 l1 x5_2).f0) 0 5 true _ A22.out).mono ?_); rintro e w' ⟨rfl, ⟨nd, rfl⟩⟩; refine ⟨_, rfl, ?_⟩; have p246 : 0 ≤ (x5_2 : Int) := ofD; have q246 : x5_2 < (l1.length : Int) := ofD; obtain ⟨ad246, e246, hx246_0, hx246_1⟩ := at_T84 HR1.out x5_2 p246 q246; obtain rfl : ad243 = ad246 := (by injection e246); replace hx246_0 := (HB.out.cell (World.block_lt_of_cell? w _ hx246_0)).trans hx246_0; replace hx246_1 := (HB.out.cell (World.block_lt_of_cell? w _ hx246_1)).trans hx246_1; replace p246 := eq_true p246; replace q246 := eq_true q246) | (go_at_call 74; (with_reducible refine (spec_l01In.calls ((rd_T84 l1 x5_2).f1) 0 x6_16 true _ A24.out).mono ?_); rintro e w' ⟨rfl, ⟨nd, rfl⟩⟩))
              go_roundg kj16
              case measure => have := HJ2.out; have := HK2.out; have := HJ16.out; omega
              case rel => exact ⟨(wrap64 (x5_2 + 1)), (eW), H', ⟨by have := HJ2.out; have := HK2.out; have := HJ16.out; omega⟩, ⟨(bP BK240.out)⟩, ⟨bW⟩⟩
             ·replace c25 := Bool.eq_false_iff.mpr c25
              subst c25
              have H1 : (some false) = some r := by rw [if_neg (show ¬ (false = true) by decide)] at H; exact H
              clear H
              have H := H1
              clear H1
              obtain rfl := Option.some.inj H
              have p244 : 0 ≤ (x5_2 : Int) := ofD
              have q244 : x5_2 < (l1.length : Int) := ofD
              obtain ⟨ad244, e244, hx244_0, hx244_1⟩ := at_T84 HR1.out x5_2 p244 q244
              obtain rfl : ad243 = ad244 := (by injection e244)
              replace hx244_0 := (HB.out.cell (World.block_lt_of_cell? w _ hx244_0)).trans hx244_0
              replace hx244_1 := (HB.out.cell (World.block_lt_of_cell? w _ hx244_1)).trans hx244_1
              replace p244 := eq_true p244
              replace q244 := eq_true q244
              go_wp2_with (first | ((with_reducible refine gate_callee (f := 74) rfl ?_); refine goesS (some 40) Tryd.func74 #[.int .i64 ((rd_T84 l1 x5_2).f0), .int .i64 0, .int .i64 5] ?_; (with_reducible refine (spec_l01In.calls ((rd_T84 l1 x5_2).f0) 0 5 true _ A22.out).mono ?_); rintro e w' ⟨rfl, ⟨nd, rfl⟩⟩; refine ⟨_, rfl, ?_⟩; have p246 : 0 ≤ (x5_2 : Int) := ofD; have q246 : x5_2 < (l1.length : Int) := ofD; obtain ⟨ad246, e246, hx246_0, hx246_1⟩ := at_T84 HR1.out x5_2 p246 q246; obtain rfl : ad243 = ad246 := (by injection e246); replace hx246_0 := (HB.out.cell (World.block_lt_of_cell? w _ hx246_0)).trans hx246_0; replace hx246_1 := (HB.out.cell (World.block_lt_of_cell? w _ hx246_1)).trans hx246_1; replace p246 := eq_true p246; replace q246 := eq_true q246) | (go_at_call 74; (with_reducible refine (spec_l01In.calls ((rd_T84 l1 x5_2).f1) 0 x6_16 false _ A24.out).mono ?_); rintro e w' ⟨rfl, ⟨nd, rfl⟩⟩))
              go_ret
              exact ⟨eW, bW⟩
            ·replace c23 := Bool.eq_false_iff.mpr c23
             subst c23
             have H1 : (some false) = some r := by rw [if_neg (show ¬ (false = true) by decide)] at H; exact H
             clear H
             have H := H1
             clear H1
             obtain rfl := Option.some.inj H
             have p244 : 0 ≤ (x5_2 : Int) := ofD
             have q244 : x5_2 < (l1.length : Int) := ofD
             obtain ⟨ad244, e244, hx244_0, hx244_1⟩ := at_T84 HR1.out x5_2 p244 q244
             obtain rfl : ad243 = ad244 := (by injection e244)
             replace hx244_0 := (HB.out.cell (World.block_lt_of_cell? w _ hx244_0)).trans hx244_0
             replace hx244_1 := (HB.out.cell (World.block_lt_of_cell? w _ hx244_1)).trans hx244_1
             replace p244 := eq_true p244
             replace q244 := eq_true q244
             go_wp2_with (first | ((with_reducible refine gate_callee (f := 74) rfl ?_); refine goesS (some 40) Tryd.func74 #[.int .i64 ((rd_T84 l1 x5_2).f0), .int .i64 0, .int .i64 5] ?_; (with_reducible refine (spec_l01In.calls ((rd_T84 l1 x5_2).f0) 0 5 false _ A22.out).mono ?_); rintro e w' ⟨rfl, ⟨nd, rfl⟩⟩; refine ⟨_, rfl, ?_⟩))
             go_ret
             exact ⟨eW, bW⟩
           ·rw [if_neg c21] at H
            exact absurd H (by simp)
          ·rw [if_neg c20] at H
           exact absurd H (by simp)
       ·rw [if_neg c16] at H
        exact absurd H (by simp)
      ·rw [if_neg c15] at H
       have c15b0 : decide (x5_2 < (l1.length : Int)) = false := decide_eq_false c15
       clear c15
       replace H := Option.bind_eq_some_iff.mp H
       obtain ⟨t242, A260, H⟩ := H
       replace H : (some (t242 == (l1.length : Int))) = some r := H
       have A26 := Aside0.mk A260
       clear A260
       obtain rfl := Option.some.inj H
       go_wp2_with (first | ((with_reducible refine gate_callee (f := 113) rfl ?_); refine goesS (some 53) Tryd.func113 #[.slice A1 l1.length c1, .int .i64 0] ?_; (with_reducible refine (spec_l13End.calls k2 _ _ l1 0 t242 _ ?side1 ?side2 A26.out).mono ?_); (case side1 => exact cP (Kd.C_below HR1.out HB.out)); (case side2 => exact HC1.out); rintro e w' ⟨rfl, ⟨nd, rfl⟩⟩; refine ⟨_, rfl, ?_⟩))
       go_ret
       exact ⟨eW, bW⟩
/-! ### spec_l13Text: function 62 -/
def spec_l13Text.f : Nat → List (S84) → Int → Option (ByteArray)
 | 0, _, _ => none
 | k + 1, l0, a1 => if 0 ≤ a1 then (if a1 < (l0.length : Int) then (if ((rd_T84 l0 a1).f0) = 0 then (some (⟨#[48]⟩ : ByteArray)) else (if ((rd_T84 l0 a1).f0) = 1 then (some (⟨#[49]⟩ : ByteArray)) else (if ((rd_T84 l0 a1).f0) = 2 then (some (strOfNums (([(wrap64 (97 + ((rd_T84 l0 a1).f1))) % 256] : List Int)))) else (if ((rd_T84 l0 a1).f0) = 3 then ((spec_l13Text.f k l0 (wrap64 (a1 + 1))).bind fun t253 => (if 1 + t253.size ≤ 9223372036854775807 then (if ((⟨#[40]⟩ : ByteArray) ++ t253).size + 1 ≤ 9223372036854775807 then ((spec_l13End.f k l0 (wrap64 (a1 + 1))).bind fun t254 => ((spec_l13Text.f k l0 t254).bind fun t255 => (if (((⟨#[40]⟩ : ByteArray) ++ t253) ++ (⟨#[43]⟩ : ByteArray)).size + t255.size ≤ 9223372036854775807 then (if ((((⟨#[40]⟩ : ByteArray) ++ t253) ++ (⟨#[43]⟩ : ByteArray)) ++ t255).size + 1 ≤ 9223372036854775807 then (some (((((⟨#[40]⟩ : ByteArray) ++ t253) ++ (⟨#[43]⟩ : ByteArray)) ++ t255) ++ (⟨#[41]⟩ : ByteArray))) else (none)) else (none)))) else (none)) else (none))) else (if ((rd_T84 l0 a1).f0) = 4 then ((spec_l13Text.f k l0 (wrap64 (a1 + 1))).bind fun t256 => (if 1 + t256.size ≤ 9223372036854775807 then (if ((⟨#[40]⟩ : ByteArray) ++ t256).size + 1 ≤ 9223372036854775807 then ((spec_l13End.f k l0 (wrap64 (a1 + 1))).bind fun t257 => ((spec_l13Text.f k l0 t257).bind fun t258 => (if (((⟨#[40]⟩ : ByteArray) ++ t256) ++ (⟨#[46]⟩ : ByteArray)).size + t258.size ≤ 9223372036854775807 then (if ((((⟨#[40]⟩ : ByteArray) ++ t256) ++ (⟨#[46]⟩ : ByteArray)) ++ t258).size + 1 ≤ 9223372036854775807 then (some (((((⟨#[40]⟩ : ByteArray) ++ t256) ++ (⟨#[46]⟩ : ByteArray)) ++ t258) ++ (⟨#[41]⟩ : ByteArray))) else (none)) else (none)))) else (none)) else (none))) else ((spec_l13Text.f k l0 (wrap64 (a1 + 1))).bind fun t259 => (if t259.size + 1 ≤ 9223372036854775807 then (some (t259 ++ (⟨#[42]⟩ : ByteArray))) else (none)))))))) else (none)) else (none)
set_option maxHeartbeats 8000000 in
set_option maxRecDepth 100000 in
theorem spec_l13Text.calls (k : Nat) : ∀ (A0 : Option Addr) (c0 : Nat) (l0 : List (S84)) (a1 : Int) (r : ByteArray) (w : World) (hr0 : Kd.C k84 w A0 l0.length l0) (hc0 : l0.length ≤ c0) (h : spec_l13Text.f k l0 a1 = some r),
  Calls Tryd.prog 62 #[.slice A0 l0.length c0, .int .i64 a1] w fun e w' => e = .returned (.string r) ∧ Below w.heap.size w w' := by
 induction k using Nat.strongRecOn with
 | _ k ih =>
 intro A0 c0 l0 a1 r w hr0 hc0 h
 cases k with
 | zero => exact absurd h (by simp [spec_l13Text.f])
 | succ k =>
 simp only [spec_l13Text.f] at h
 have HR0 := Aside0.mk hr0
 have HC0 := Aside0.mk hc0
 clear hr0 hc0
 have HB := Aside0.mk (Below.refl w.heap.size w)
 have H : (if 0 ≤ a1 then (if a1 < (l0.length : Int) then (if ((rd_T84 l0 a1).f0) = 0 then (some (⟨#[48]⟩ : ByteArray)) else (if ((rd_T84 l0 a1).f0) = 1 then (some (⟨#[49]⟩ : ByteArray)) else (if ((rd_T84 l0 a1).f0) = 2 then (some (strOfNums (([(wrap64 (97 + ((rd_T84 l0 a1).f1))) % 256] : List Int)))) else (if ((rd_T84 l0 a1).f0) = 3 then ((spec_l13Text.f k l0 (wrap64 (a1 + 1))).bind fun t253 => (if 1 + t253.size ≤ 9223372036854775807 then (if ((⟨#[40]⟩ : ByteArray) ++ t253).size + 1 ≤ 9223372036854775807 then ((spec_l13End.f k l0 (wrap64 (a1 + 1))).bind fun t254 => ((spec_l13Text.f k l0 t254).bind fun t255 => (if (((⟨#[40]⟩ : ByteArray) ++ t253) ++ (⟨#[43]⟩ : ByteArray)).size + t255.size ≤ 9223372036854775807 then (if ((((⟨#[40]⟩ : ByteArray) ++ t253) ++ (⟨#[43]⟩ : ByteArray)) ++ t255).size + 1 ≤ 9223372036854775807 then (some (((((⟨#[40]⟩ : ByteArray) ++ t253) ++ (⟨#[43]⟩ : ByteArray)) ++ t255) ++ (⟨#[41]⟩ : ByteArray))) else (none)) else (none)))) else (none)) else (none))) else (if ((rd_T84 l0 a1).f0) = 4 then ((spec_l13Text.f k l0 (wrap64 (a1 + 1))).bind fun t256 => (if 1 + t256.size ≤ 9223372036854775807 then (if ((⟨#[40]⟩ : ByteArray) ++ t256).size + 1 ≤ 9223372036854775807 then ((spec_l13End.f k l0 (wrap64 (a1 + 1))).bind fun t257 => ((spec_l13Text.f k l0 t257).bind fun t258 => (if (((⟨#[40]⟩ : ByteArray) ++ t256) ++ (⟨#[46]⟩ : ByteArray)).size + t258.size ≤ 9223372036854775807 then (if ((((⟨#[40]⟩ : ByteArray) ++ t256) ++ (⟨#[46]⟩ : ByteArray)) ++ t258).size + 1 ≤ 9223372036854775807 then (some (((((⟨#[40]⟩ : ByteArray) ++ t256) ++ (⟨#[46]⟩ : ByteArray)) ++ t258) ++ (⟨#[41]⟩ : ByteArray))) else (none)) else (none)))) else (none)) else (none))) else ((spec_l13Text.f k l0 (wrap64 (a1 + 1))).bind fun t259 => (if t259.size + 1 ≤ 9223372036854775807 then (some (t259 ++ (⟨#[42]⟩ : ByteArray))) else (none)))))))) else (none)) else (none)) = some r := h
 clear h
 by_cases c3 : 0 ≤ a1
 ·rw [if_pos c3] at H
  have c3b0 : decide (0 ≤ a1) = true := decide_eq_true c3
  clear c3
  by_cases c4 : a1 < (l0.length : Int)
  ·rw [if_pos c4] at H
   have c4b0 : decide (a1 < (l0.length : Int)) = true := decide_eq_true c4
   clear c4
   by_cases c5 : ((rd_T84 l0 a1).f0) = 0
   ·rw [if_pos c5] at H
    have c5b0 : (((rd_T84 l0 a1).f0) == 0) = true := beq_iff_eq.mpr c5
    have c5b1 : (((rd_T84 l0 a1).f0) != 0) = false := bne_eq_false_iff_eq.mpr c5
    clear c5
    obtain rfl := Option.some.inj H
    have p248 : 0 ≤ (a1 : Int) := ofD
    have q248 : a1 < (l0.length : Int) := ofD
    obtain ⟨ad248, e248, hx248_0, hx248_1⟩ := at_T84 HR0.out a1 p248 q248
    cases e248
    replace p248 := eq_true p248
    replace q248 := eq_true q248
    go_enter Tryd.func62, Tryd.ntmps62
    go_wp2
    go_ret
    exact ⟨eW, bW⟩
   ·rw [if_neg c5] at H
    have c5b0 : (((rd_T84 l0 a1).f0) == 0) = false := beq_eq_false_iff_ne.mpr c5
    have c5b1 : (((rd_T84 l0 a1).f0) != 0) = true := bne_iff_ne.mpr c5
    by_cases c6 : ((rd_T84 l0 a1).f0) = 1
    ·rw [if_pos c6] at H
     have c6b0 : (((rd_T84 l0 a1).f0) == 1) = true := beq_iff_eq.mpr c6
     have c6b1 : (((rd_T84 l0 a1).f0) != 1) = false := bne_eq_false_iff_eq.mpr c6
     clear c6
     obtain rfl := Option.some.inj H
     have p248 : 0 ≤ (a1 : Int) := ofD
     have q248 : a1 < (l0.length : Int) := ofD
     obtain ⟨ad248, e248, hx248_0, hx248_1⟩ := at_T84 HR0.out a1 p248 q248
     cases e248
     replace p248 := eq_true p248
     replace q248 := eq_true q248
     go_enter Tryd.func62, Tryd.ntmps62
     go_wp2
     go_ret
     exact ⟨eW, bW⟩
    ·rw [if_neg c6] at H
     have c6b0 : (((rd_T84 l0 a1).f0) == 1) = false := beq_eq_false_iff_ne.mpr c6
     have c6b1 : (((rd_T84 l0 a1).f0) != 1) = true := bne_iff_ne.mpr c6
     by_cases c7 : ((rd_T84 l0 a1).f0) = 2
     ·rw [if_pos c7] at H
      have c7b0 : (((rd_T84 l0 a1).f0) == 2) = true := beq_iff_eq.mpr c7
      have c7b1 : (((rd_T84 l0 a1).f0) != 2) = false := bne_eq_false_iff_eq.mpr c7
      clear c7
      obtain ⟨y250, hy250⟩ : ∃ y_ : List Int, y_ = (([(wrap64 (97 + ((rd_T84 l0 a1).f1))) % 256] : List Int)) := ⟨_, rfl⟩
      replace H : (some (strOfNums y250)) = some r := by first | (rw [hy250]; with_reducible exact H) | (have H2_ := (Option.bind_some _ _).symm.trans H; rw [hy250]; with_reducible exact H2_) | (have H2_ := (Option.bind_some _ _).symm.trans H; with_reducible exact H2_) | with_reducible exact H | (rw [hy250]; exact H) | exact H
      have Ny250 := Aside0.mk hy250
      clear hy250
      obtain rfl := Option.some.inj H
      have p248 : 0 ≤ (a1 : Int) := ofD
      have q248 : a1 < (l0.length : Int) := ofD
      obtain ⟨ad248, e248, hx248_0, hx248_1⟩ := at_T84 HR0.out a1 p248 q248
      cases e248
      replace p248 := eq_true p248
      replace q248 := eq_true q248
      have p249 : 0 ≤ (a1 : Int) := ofD
      have q249 : a1 < (l0.length : Int) := ofD
      obtain ⟨ad249, e249, hx249_0, hx249_1⟩ := at_T84 HR0.out a1 p249 q249
      obtain rfl : ad248 = ad249 := (by injection e249)
      replace p249 := eq_true p249
      replace q249 := eq_true q249
      go_enter Tryd.func62, Tryd.ntmps62
      go_wp2_with (first | ((with_reducible refine gate_dst (N := 23) rfl ?_); refine Kd.R_lit (Kd.int .u8) _ 5 ?hg (N := 23) ?hd (xs := ([(wrap64 (97 + ((rd_T84 l0 a1).f1))) % 256] : List Int)) (inner := [.int .u8 ((wrap64 (97 + ((rd_T84 l0 a1).f1))) % 256)]) (ok := fun _ => True) (okp := fun _ => True) ?hr ?hp (fun _ hk => hk) trivial (Below.refl _ _) (Nat.le_refl _) (by simp) ?_; (case hd => rfl); (case hg => rfl); (case hr => first | (go_simp; done) | (go_simp; rfl)); (case hp => exact (Reps.one (show Kd.M (Kd.int .u8) _ _ _ ((wrap64 (97 + ((rd_T84 l0 a1).f1))) % 256) [.int .u8 ((wrap64 (97 + ((rd_T84 l0 a1).f1))) % 256)] from rfl) (Reps.none _ _))); intro v251 w8 ho9 hb hg_ hnew_; clear hg_ hnew_; (first | rw [← Ny250.out] at ho9 | (simp only [Int.reduceToNat] at ho9; rw [← Ny250.out] at ho9)); have n0_ := Aside0.mk (Kd.R_lower ho9 (below_size (bW))); have n1_ := Aside0.mk (below_step (bW) hb); clear HB; have HO252 := n0_; have HB := n1_; clear n0_ n1_ hb ho9; have hcv10 := own_string (P := Tryd.prog) Tryd.underlying76 Tryd.underlying5 Tryd.underlying9 (Kd.own_of_R HO252.out)))
      go_ret
      exact ⟨eW, bW⟩
     ·rw [if_neg c7] at H
      have c7b0 : (((rd_T84 l0 a1).f0) == 2) = false := beq_eq_false_iff_ne.mpr c7
      have c7b1 : (((rd_T84 l0 a1).f0) != 2) = true := bne_iff_ne.mpr c7
      by_cases c11 : ((rd_T84 l0 a1).f0) = 3
      ·rw [if_pos c11] at H
       have c11b0 : (((rd_T84 l0 a1).f0) == 3) = true := beq_iff_eq.mpr c11
       have c11b1 : (((rd_T84 l0 a1).f0) != 3) = false := bne_eq_false_iff_eq.mpr c11
       clear c11
       replace H := Option.bind_eq_some_iff.mp H
       obtain ⟨t253, A120, H⟩ := H
       replace H : (if 1 + t253.size ≤ 9223372036854775807 then (if ((⟨#[40]⟩ : ByteArray) ++ t253).size + 1 ≤ 9223372036854775807 then ((spec_l13End.f k l0 (wrap64 (a1 + 1))).bind fun t254 => ((spec_l13Text.f k l0 t254).bind fun t255 => (if (((⟨#[40]⟩ : ByteArray) ++ t253) ++ (⟨#[43]⟩ : ByteArray)).size + t255.size ≤ 9223372036854775807 then (if ((((⟨#[40]⟩ : ByteArray) ++ t253) ++ (⟨#[43]⟩ : ByteArray)) ++ t255).size + 1 ≤ 9223372036854775807 then (some (((((⟨#[40]⟩ : ByteArray) ++ t253) ++ (⟨#[43]⟩ : ByteArray)) ++ t255) ++ (⟨#[41]⟩ : ByteArray))) else (none)) else (none)))) else (none)) else (none)) = some r := H
       have A12 := Aside0.mk A120
       clear A120
       by_cases c13 : 1 + t253.size ≤ 9223372036854775807
       ·rw [if_pos c13] at H
        have c13b0 := eq_true c13
        have c13b1 : decide (1 + t253.size ≤ 9223372036854775807) = true := decide_eq_true c13
        try have c13b2 : (9223372036854775807 < 1 + t253.size) = False := eq_false (Nat.not_lt.2 c13)
        by_cases c14 : ((⟨#[40]⟩ : ByteArray) ++ t253).size + 1 ≤ 9223372036854775807
        ·rw [if_pos c14] at H
         have c14b0 := eq_true c14
         have c14b1 : decide (((⟨#[40]⟩ : ByteArray) ++ t253).size + 1 ≤ 9223372036854775807) = true := decide_eq_true c14
         try have c14b2 : (9223372036854775807 < ((⟨#[40]⟩ : ByteArray) ++ t253).size + 1) = False := eq_false (Nat.not_lt.2 c14)
         try have c14b3 : (9223372036854775807 < 1 + t253.size + 1) = False := eq_false (by have h_ := c14; simp only [ByteArray.size_append, show (⟨#[40]⟩ : ByteArray).size = 1 from rfl] at h_; omega)
         replace H := Option.bind_eq_some_iff.mp H
         obtain ⟨t254, A150, H⟩ := H
         replace H : ((spec_l13Text.f k l0 t254).bind fun t255 => (if (((⟨#[40]⟩ : ByteArray) ++ t253) ++ (⟨#[43]⟩ : ByteArray)).size + t255.size ≤ 9223372036854775807 then (if ((((⟨#[40]⟩ : ByteArray) ++ t253) ++ (⟨#[43]⟩ : ByteArray)) ++ t255).size + 1 ≤ 9223372036854775807 then (some (((((⟨#[40]⟩ : ByteArray) ++ t253) ++ (⟨#[43]⟩ : ByteArray)) ++ t255) ++ (⟨#[41]⟩ : ByteArray))) else (none)) else (none))) = some r := H
         have A15 := Aside0.mk A150
         clear A150
         replace H := Option.bind_eq_some_iff.mp H
         obtain ⟨t255, A160, H⟩ := H
         replace H : (if (((⟨#[40]⟩ : ByteArray) ++ t253) ++ (⟨#[43]⟩ : ByteArray)).size + t255.size ≤ 9223372036854775807 then (if ((((⟨#[40]⟩ : ByteArray) ++ t253) ++ (⟨#[43]⟩ : ByteArray)) ++ t255).size + 1 ≤ 9223372036854775807 then (some (((((⟨#[40]⟩ : ByteArray) ++ t253) ++ (⟨#[43]⟩ : ByteArray)) ++ t255) ++ (⟨#[41]⟩ : ByteArray))) else (none)) else (none)) = some r := H
         have A16 := Aside0.mk A160
         clear A160
         by_cases c17 : (((⟨#[40]⟩ : ByteArray) ++ t253) ++ (⟨#[43]⟩ : ByteArray)).size + t255.size ≤ 9223372036854775807
         ·rw [if_pos c17] at H
          have c17b0 := eq_true c17
          have c17b1 : decide ((((⟨#[40]⟩ : ByteArray) ++ t253) ++ (⟨#[43]⟩ : ByteArray)).size + t255.size ≤ 9223372036854775807) = true := decide_eq_true c17
          try have c17b2 : (9223372036854775807 < (((⟨#[40]⟩ : ByteArray) ++ t253) ++ (⟨#[43]⟩ : ByteArray)).size + t255.size) = False := eq_false (Nat.not_lt.2 c17)
          try have c17b3 : (9223372036854775807 < 1 + t253.size + 1 + t255.size) = False := eq_false (by have h_ := c17; simp only [ByteArray.size_append, show (⟨#[40]⟩ : ByteArray).size = 1 from rfl, show (⟨#[43]⟩ : ByteArray).size = 1 from rfl] at h_; omega)
          by_cases c18 : ((((⟨#[40]⟩ : ByteArray) ++ t253) ++ (⟨#[43]⟩ : ByteArray)) ++ t255).size + 1 ≤ 9223372036854775807
          ·rw [if_pos c18] at H
           have c18b0 := eq_true c18
           have c18b1 : decide (((((⟨#[40]⟩ : ByteArray) ++ t253) ++ (⟨#[43]⟩ : ByteArray)) ++ t255).size + 1 ≤ 9223372036854775807) = true := decide_eq_true c18
           try have c18b2 : (9223372036854775807 < ((((⟨#[40]⟩ : ByteArray) ++ t253) ++ (⟨#[43]⟩ : ByteArray)) ++ t255).size + 1) = False := eq_false (Nat.not_lt.2 c18)
           try have c18b3 : (9223372036854775807 < 1 + t253.size + 1 + t255.size + 1) = False := eq_false (by have h_ := c18; simp only [ByteArray.size_append, show (⟨#[40]⟩ : ByteArray).size = 1 from rfl, show (⟨#[43]⟩ : ByteArray).size = 1 from rfl] at h_; omega)
           obtain rfl := Option.some.inj H
           have p248 : 0 ≤ (a1 : Int) := ofD
           have q248 : a1 < (l0.length : Int) := ofD
           obtain ⟨ad248, e248, hx248_0, hx248_1⟩ := at_T84 HR0.out a1 p248 q248
           cases e248
           replace p248 := eq_true p248
           replace q248 := eq_true q248
           go_enter Tryd.func62, Tryd.ntmps62
           go_wp2_with (first | ((with_reducible refine gate_callee (f := 62) rfl ?_); refine goesS (some 30) Tryd.func62 #[.slice (some ad248) l0.length c0, .int .i64 (wrap64 (a1 + 1))] ?_; (with_reducible refine (ih k (by omega) _ _ l0 (wrap64 (a1 + 1)) t253 _ ?side1 ?side2 A12.out).mono ?_); (case side1 => exact cP HR0.out); (case side2 => exact HC0.out); rintro e w19 ⟨rfl, hb⟩; refine ⟨_, rfl, ?_⟩; have n0_ := Aside0.mk (below_step (bW) hb); clear HB; have HB := n0_; clear n0_; (try clear hb); (try clear hb2); (try clear hk); (try clear hi)) | ((with_reducible refine gate_callee (f := 113) rfl ?_); refine goesS (some 37) Tryd.func113 #[.slice (some ad248) l0.length c0, .int .i64 (wrap64 (a1 + 1))] ?_; (with_reducible refine (spec_l13End.calls k _ _ l0 (wrap64 (a1 + 1)) t254 _ ?side1 ?side2 A15.out).mono ?_); (case side1 => exact cP (Kd.C_below HR0.out HB.out)); (case side2 => exact HC0.out); rintro e w' ⟨rfl, ⟨nd, rfl⟩⟩; refine ⟨_, rfl, ?_⟩) | ((with_reducible refine gate_callee (f := 62) rfl ?_); refine goesS (some 38) Tryd.func62 #[.slice (some ad248) l0.length c0, .int .i64 t254] ?_; (with_reducible refine (ih k (by omega) _ _ l0 t254 t255 _ ?side1 ?side2 A16.out).mono ?_); (case side1 => exact cP (Kd.C_below HR0.out (bW))); (case side2 => exact HC0.out); rintro e w20 ⟨rfl, hb⟩; refine ⟨_, rfl, ?_⟩; have n0_ := Aside0.mk (below_step (bW) hb); clear HB; have HB := n0_; clear n0_; (try clear hb); (try clear hb2); (try clear hk); (try clear hi)))
           go_ret
           exact ⟨eW, bW⟩
          ·rw [if_neg c18] at H
           exact absurd H (by simp)
         ·rw [if_neg c17] at H
          exact absurd H (by simp)
        ·rw [if_neg c14] at H
         exact absurd H (by simp)
       ·rw [if_neg c13] at H
        exact absurd H (by simp)
      ·rw [if_neg c11] at H
       have c11b0 : (((rd_T84 l0 a1).f0) == 3) = false := beq_eq_false_iff_ne.mpr c11
       have c11b1 : (((rd_T84 l0 a1).f0) != 3) = true := bne_iff_ne.mpr c11
       by_cases c21 : ((rd_T84 l0 a1).f0) = 4
       ·rw [if_pos c21] at H
        have c21b0 : (((rd_T84 l0 a1).f0) == 4) = true := beq_iff_eq.mpr c21
        have c21b1 : (((rd_T84 l0 a1).f0) != 4) = false := bne_eq_false_iff_eq.mpr c21
        clear c21
        replace H := Option.bind_eq_some_iff.mp H
        obtain ⟨t256, A220, H⟩ := H
        replace H : (if 1 + t256.size ≤ 9223372036854775807 then (if ((⟨#[40]⟩ : ByteArray) ++ t256).size + 1 ≤ 9223372036854775807 then ((spec_l13End.f k l0 (wrap64 (a1 + 1))).bind fun t257 => ((spec_l13Text.f k l0 t257).bind fun t258 => (if (((⟨#[40]⟩ : ByteArray) ++ t256) ++ (⟨#[46]⟩ : ByteArray)).size + t258.size ≤ 9223372036854775807 then (if ((((⟨#[40]⟩ : ByteArray) ++ t256) ++ (⟨#[46]⟩ : ByteArray)) ++ t258).size + 1 ≤ 9223372036854775807 then (some (((((⟨#[40]⟩ : ByteArray) ++ t256) ++ (⟨#[46]⟩ : ByteArray)) ++ t258) ++ (⟨#[41]⟩ : ByteArray))) else (none)) else (none)))) else (none)) else (none)) = some r := H
        have A22 := Aside0.mk A220
        clear A220
        by_cases c23 : 1 + t256.size ≤ 9223372036854775807
        ·rw [if_pos c23] at H
         have c23b0 := eq_true c23
         have c23b1 : decide (1 + t256.size ≤ 9223372036854775807) = true := decide_eq_true c23
         try have c23b2 : (9223372036854775807 < 1 + t256.size) = False := eq_false (Nat.not_lt.2 c23)
         by_cases c24 : ((⟨#[40]⟩ : ByteArray) ++ t256).size + 1 ≤ 9223372036854775807
         ·rw [if_pos c24] at H
          have c24b0 := eq_true c24
          have c24b1 : decide (((⟨#[40]⟩ : ByteArray) ++ t256).size + 1 ≤ 9223372036854775807) = true := decide_eq_true c24
          try have c24b2 : (9223372036854775807 < ((⟨#[40]⟩ : ByteArray) ++ t256).size + 1) = False := eq_false (Nat.not_lt.2 c24)
          try have c24b3 : (9223372036854775807 < 1 + t256.size + 1) = False := eq_false (by have h_ := c24; simp only [ByteArray.size_append, show (⟨#[40]⟩ : ByteArray).size = 1 from rfl] at h_; omega)
          replace H := Option.bind_eq_some_iff.mp H
          obtain ⟨t257, A250, H⟩ := H
          replace H : ((spec_l13Text.f k l0 t257).bind fun t258 => (if (((⟨#[40]⟩ : ByteArray) ++ t256) ++ (⟨#[46]⟩ : ByteArray)).size + t258.size ≤ 9223372036854775807 then (if ((((⟨#[40]⟩ : ByteArray) ++ t256) ++ (⟨#[46]⟩ : ByteArray)) ++ t258).size + 1 ≤ 9223372036854775807 then (some (((((⟨#[40]⟩ : ByteArray) ++ t256) ++ (⟨#[46]⟩ : ByteArray)) ++ t258) ++ (⟨#[41]⟩ : ByteArray))) else (none)) else (none))) = some r := H
          have A25 := Aside0.mk A250
          clear A250
          replace H := Option.bind_eq_some_iff.mp H
          obtain ⟨t258, A260, H⟩ := H
          replace H : (if (((⟨#[40]⟩ : ByteArray) ++ t256) ++ (⟨#[46]⟩ : ByteArray)).size + t258.size ≤ 9223372036854775807 then (if ((((⟨#[40]⟩ : ByteArray) ++ t256) ++ (⟨#[46]⟩ : ByteArray)) ++ t258).size + 1 ≤ 9223372036854775807 then (some (((((⟨#[40]⟩ : ByteArray) ++ t256) ++ (⟨#[46]⟩ : ByteArray)) ++ t258) ++ (⟨#[41]⟩ : ByteArray))) else (none)) else (none)) = some r := H
          have A26 := Aside0.mk A260
          clear A260
          by_cases c27 : (((⟨#[40]⟩ : ByteArray) ++ t256) ++ (⟨#[46]⟩ : ByteArray)).size + t258.size ≤ 9223372036854775807
          ·rw [if_pos c27] at H
           have c27b0 := eq_true c27
           have c27b1 : decide ((((⟨#[40]⟩ : ByteArray) ++ t256) ++ (⟨#[46]⟩ : ByteArray)).size + t258.size ≤ 9223372036854775807) = true := decide_eq_true c27
           try have c27b2 : (9223372036854775807 < (((⟨#[40]⟩ : ByteArray) ++ t256) ++ (⟨#[46]⟩ : ByteArray)).size + t258.size) = False := eq_false (Nat.not_lt.2 c27)
           try have c27b3 : (9223372036854775807 < 1 + t256.size + 1 + t258.size) = False := eq_false (by have h_ := c27; simp only [ByteArray.size_append, show (⟨#[40]⟩ : ByteArray).size = 1 from rfl, show (⟨#[46]⟩ : ByteArray).size = 1 from rfl] at h_; omega)
           by_cases c28 : ((((⟨#[40]⟩ : ByteArray) ++ t256) ++ (⟨#[46]⟩ : ByteArray)) ++ t258).size + 1 ≤ 9223372036854775807
           ·rw [if_pos c28] at H
            have c28b0 := eq_true c28
            have c28b1 : decide (((((⟨#[40]⟩ : ByteArray) ++ t256) ++ (⟨#[46]⟩ : ByteArray)) ++ t258).size + 1 ≤ 9223372036854775807) = true := decide_eq_true c28
            try have c28b2 : (9223372036854775807 < ((((⟨#[40]⟩ : ByteArray) ++ t256) ++ (⟨#[46]⟩ : ByteArray)) ++ t258).size + 1) = False := eq_false (Nat.not_lt.2 c28)
            try have c28b3 : (9223372036854775807 < 1 + t256.size + 1 + t258.size + 1) = False := eq_false (by have h_ := c28; simp only [ByteArray.size_append, show (⟨#[40]⟩ : ByteArray).size = 1 from rfl, show (⟨#[46]⟩ : ByteArray).size = 1 from rfl] at h_; omega)
            obtain rfl := Option.some.inj H
            have p248 : 0 ≤ (a1 : Int) := ofD
            have q248 : a1 < (l0.length : Int) := ofD
            obtain ⟨ad248, e248, hx248_0, hx248_1⟩ := at_T84 HR0.out a1 p248 q248
            cases e248
            replace p248 := eq_true p248
            replace q248 := eq_true q248
            go_enter Tryd.func62, Tryd.ntmps62
            go_wp2_with (first | ((with_reducible refine gate_callee (f := 62) rfl ?_); refine goesS (some 46) Tryd.func62 #[.slice (some ad248) l0.length c0, .int .i64 (wrap64 (a1 + 1))] ?_; (with_reducible refine (ih k (by omega) _ _ l0 (wrap64 (a1 + 1)) t256 _ ?side1 ?side2 A22.out).mono ?_); (case side1 => exact cP HR0.out); (case side2 => exact HC0.out); rintro e w29 ⟨rfl, hb⟩; refine ⟨_, rfl, ?_⟩; have n0_ := Aside0.mk (below_step (bW) hb); clear HB; have HB := n0_; clear n0_; (try clear hb); (try clear hb2); (try clear hk); (try clear hi)) | ((with_reducible refine gate_callee (f := 113) rfl ?_); refine goesS (some 53) Tryd.func113 #[.slice (some ad248) l0.length c0, .int .i64 (wrap64 (a1 + 1))] ?_; (with_reducible refine (spec_l13End.calls k _ _ l0 (wrap64 (a1 + 1)) t257 _ ?side1 ?side2 A25.out).mono ?_); (case side1 => exact cP (Kd.C_below HR0.out HB.out)); (case side2 => exact HC0.out); rintro e w' ⟨rfl, ⟨nd, rfl⟩⟩; refine ⟨_, rfl, ?_⟩) | ((with_reducible refine gate_callee (f := 62) rfl ?_); refine goesS (some 54) Tryd.func62 #[.slice (some ad248) l0.length c0, .int .i64 t257] ?_; (with_reducible refine (ih k (by omega) _ _ l0 t257 t258 _ ?side1 ?side2 A26.out).mono ?_); (case side1 => exact cP (Kd.C_below HR0.out (bW))); (case side2 => exact HC0.out); rintro e w30 ⟨rfl, hb⟩; refine ⟨_, rfl, ?_⟩; have n0_ := Aside0.mk (below_step (bW) hb); clear HB; have HB := n0_; clear n0_; (try clear hb); (try clear hb2); (try clear hk); (try clear hi)))
            go_ret
            exact ⟨eW, bW⟩
           ·rw [if_neg c28] at H
            exact absurd H (by simp)
          ·rw [if_neg c27] at H
           exact absurd H (by simp)
         ·rw [if_neg c24] at H
          exact absurd H (by simp)
        ·rw [if_neg c23] at H
         exact absurd H (by simp)
       ·rw [if_neg c21] at H
        have c21b0 : (((rd_T84 l0 a1).f0) == 4) = false := beq_eq_false_iff_ne.mpr c21
        have c21b1 : (((rd_T84 l0 a1).f0) != 4) = true := bne_iff_ne.mpr c21
        replace H := Option.bind_eq_some_iff.mp H
        obtain ⟨t259, A310, H⟩ := H
        replace H : (if t259.size + 1 ≤ 9223372036854775807 then (some (t259 ++ (⟨#[42]⟩ : ByteArray))) else (none)) = some r := H
        have A31 := Aside0.mk A310
        clear A310
        by_cases c32 : t259.size + 1 ≤ 9223372036854775807
        ·rw [if_pos c32] at H
         have c32b0 := eq_true c32
         have c32b1 : decide (t259.size + 1 ≤ 9223372036854775807) = true := decide_eq_true c32
         try have c32b2 : (9223372036854775807 < t259.size + 1) = False := eq_false (Nat.not_lt.2 c32)
         obtain rfl := Option.some.inj H
         have p248 : 0 ≤ (a1 : Int) := ofD
         have q248 : a1 < (l0.length : Int) := ofD
         obtain ⟨ad248, e248, hx248_0, hx248_1⟩ := at_T84 HR0.out a1 p248 q248
         cases e248
         replace p248 := eq_true p248
         replace q248 := eq_true q248
         go_enter Tryd.func62, Tryd.ntmps62
         go_wp2_with (first | ((with_reducible refine gate_callee (f := 62) rfl ?_); refine goesS (some 60) Tryd.func62 #[.slice (some ad248) l0.length c0, .int .i64 (wrap64 (a1 + 1))] ?_; (with_reducible refine (ih k (by omega) _ _ l0 (wrap64 (a1 + 1)) t259 _ ?side1 ?side2 A31.out).mono ?_); (case side1 => exact cP HR0.out); (case side2 => exact HC0.out); rintro e w33 ⟨rfl, hb⟩; refine ⟨_, rfl, ?_⟩; have n0_ := Aside0.mk (below_step (bW) hb); clear HB; have HB := n0_; clear n0_; (try clear hb); (try clear hb2); (try clear hk); (try clear hi)))
         go_ret
         exact ⟨eW, bW⟩
        ·rw [if_neg c32] at H
         exact absurd H (by simp)
  ·rw [if_neg c4] at H
   exact absurd H (by simp)
 ·rw [if_neg c3] at H
  exact absurd H (by simp)
/-! ### spec_ExpressionText: function 21 -/
/-! ### laws_toTerm: function 63 -/
end Go.Proofs.YthbaocejgjpfoaaDoor.P
end M2
section M3
namespace Go.Proofs.YthbaocejgjpfoaaDoor.P
open Go.RowKit Go.Proofs.YthbaocejgjpfoaaDoor.Sh Go.Proofs.YthbaocejgjpfoaaDoorW.PrintWords Go.Proofs.YthbaocejgjpfoaaDoorW.PrintLast Go.Proofs.YthbaocejgjpfoaaDoorW.PrintMore
attribute [local go_sem] max2_int min2_int max_two min_two max_three min_three max_four min_four   -- for this text's walks alone
set_option linter.unusedVariables false
set_option linter.unusedSimpArgs false
/-! ### laws_toTermS: function 22 -/
/-! ### impl_isLetter: function 145 -/
def impl_isLetter.f (a0_0 : Int) (l0_1 : List Int) (a1 : Int) : Option (Bool) := (impl_inRange.f a1 0 (wrap64 (a0_0 - 1))).bind fun t274 => (some t274)
set_option maxHeartbeats 8000000 in
set_option maxRecDepth 100000 in
theorem impl_isLetter.calls (a0_0 : Int) (A0_1 : Option Addr) (c0_1 : Nat) (l0_1 : List Int) (a1 : Int) (r : Bool) (w : World) (hr0_1 : Kd.C (Kd.int .i64) w A0_1 l0_1.length l0_1) (hc0_1 : l0_1.length ≤ c0_1) (h : impl_isLetter.f a0_0 l0_1 a1 = some r) :
  Calls Tryd.prog 145 #[.agg #[.int .i64 a0_0, .slice A0_1 l0_1.length c0_1], .int .i64 a1] w fun e w' => e = .returned (.bool r) ∧ Below w.heap.size w w' := by
 have hu29 := Tryd.underlying29
 have HR0_1 := Aside0.mk hr0_1
 have HC0_1 := Aside0.mk hc0_1
 clear hr0_1 hc0_1
 have HB := Aside0.mk (Below.refl w.heap.size w)
 have H : ((impl_inRange.f a1 0 (wrap64 (a0_0 - 1))).bind fun t274 => (some t274)) = some r := h
 clear h
 replace H := Option.bind_eq_some_iff.mp H
 obtain ⟨t274, A30, H⟩ := H
 replace H : (some t274) = some r := H
 have A3 := Aside0.mk A30
 clear A30
 obtain rfl := Option.some.inj H
 go_enter Tryd.func145, Tryd.ntmps145
 go_wp2_with (first | ((with_reducible refine gate_dst (N := 2) rfl ?_); refine boxS (N := 2) (cs := #[.int .i64 a0_0, .slice A0_1 l0_1.length c0_1]) (t := 29) ?_; intro gb273 hg w4 hbox hb; have n0_ := Aside0.mk (below_step (bW) hb); have n1_ := Aside0.mk (hbox); have n2_ := geW (w := w) hg; have n3_ := geW (w := w) hg; clear HB; have HB := n0_; have BK273 := n1_; have GW273 := n2_; have GE273 := n3_; clear n0_ n1_ n2_ n3_ hb hbox hg; obtain ⟨hcz5_0, hcz5_1⟩ := cells2 BK273.out; obtain ⟨hfz5_0, hfz5_1⟩ := frz2 BK273.out) | ((with_reducible refine gate_callee (f := 109) rfl ?_); refine goesS (some 9) Tryd.func109 #[.int .i64 a1, .int .i64 0, .int .i64 (wrap64 (a0_0 - 1))] ?_; (with_reducible refine (impl_inRange.calls a1 0 (wrap64 (a0_0 - 1)) t274 _ A3.out).mono ?_); rintro e w' ⟨rfl, ⟨nd, rfl⟩⟩; refine ⟨_, rfl, ?_⟩))
 go_ret
 exact ⟨eW, bW⟩
/-! ### impl_partsIn: function 146 -/
def impl_partsIn.f (a0 : Int) : Option (Int) := if a0 = 5 then (some 1) else (if a0 = 3 then (some 2) else (if a0 = 4 then (some 2) else (some 0)))
set_option maxHeartbeats 8000000 in
set_option maxRecDepth 100000 in
theorem impl_partsIn.calls (a0 : Int) (r : Int) (w : World) (h : impl_partsIn.f a0 = some r) :
  Calls Tryd.prog 146 #[.int .i64 a0] w fun e w' => e = .returned (.int .i64 r) ∧ Drawn0 w w' := by
 have H : (if a0 = 5 then (some 1) else (if a0 = 3 then (some 2) else (if a0 = 4 then (some 2) else (some 0)))) = some r := h
 clear h
 by_cases c2 : a0 = 5
 ·rw [if_pos c2] at H
  have c2b0 : (a0 == 5) = true := beq_iff_eq.mpr c2
  have c2b1 : (a0 != 5) = false := bne_eq_false_iff_eq.mpr c2
  clear c2
  obtain rfl := Option.some.inj H
  go_enter Tryd.func146, Tryd.ntmps146
  go_wp2
  go_ret
  exact ⟨eW, by repeat (first | exact Drawn0.refl _ | apply Drawn0.step)⟩
 ·rw [if_neg c2] at H
  have c2b0 : (a0 == 5) = false := beq_eq_false_iff_ne.mpr c2
  have c2b1 : (a0 != 5) = true := bne_iff_ne.mpr c2
  by_cases c3 : a0 = 3
  ·rw [if_pos c3] at H
   have c3b0 : (a0 == 3) = true := beq_iff_eq.mpr c3
   have c3b1 : (a0 != 3) = false := bne_eq_false_iff_eq.mpr c3
   clear c3
   obtain rfl := Option.some.inj H
   go_enter Tryd.func146, Tryd.ntmps146
   go_wp2
   go_ret
   exact ⟨eW, by repeat (first | exact Drawn0.refl _ | apply Drawn0.step)⟩
  ·rw [if_neg c3] at H
   have c3b0 : (a0 == 3) = false := beq_eq_false_iff_ne.mpr c3
   have c3b1 : (a0 != 3) = true := bne_iff_ne.mpr c3
   by_cases c4 : a0 = 4
   ·rw [if_pos c4] at H
    have c4b0 : (a0 == 4) = true := beq_iff_eq.mpr c4
    have c4b1 : (a0 != 4) = false := bne_eq_false_iff_eq.mpr c4
    clear c4
    obtain rfl := Option.some.inj H
    go_enter Tryd.func146, Tryd.ntmps146
    go_wp2
    go_ret
    exact ⟨eW, by repeat (first | exact Drawn0.refl _ | apply Drawn0.step)⟩
   ·rw [if_neg c4] at H
    have c4b0 : (a0 == 4) = false := beq_eq_false_iff_ne.mpr c4
    have c4b1 : (a0 != 4) = true := bne_iff_ne.mpr c4
    obtain rfl := Option.some.inj H
    go_enter Tryd.func146, Tryd.ntmps146
    go_wp2
    go_ret
    exact ⟨eW, by repeat (first | exact Drawn0.refl _ | apply Drawn0.step)⟩
end Go.Proofs.YthbaocejgjpfoaaDoor.P
end M3
