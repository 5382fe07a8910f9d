import Derived.ArgAppend
import Derived.Below
import Derived.BigQuiet
import Derived.Deep.AppendLies
import Derived.Deep.CutBlock
import Derived.Deep.DeepCutAuto
import Derived.Deep.Draws
import Derived.Deep.LoopGhost
import Derived.Deep.OwnRows
import Derived.Deep.QuietTactic
import Derived.Deep.RegionHeld3
import Derived.KernelRfl
import Derived.Laws.BitsLemmas
import Derived.Laws.BytesArg
import Derived.Laws.IdiomCopy
import Derived.Laws.MakeOwn
import Derived.Laws.OwnMore
import Derived.Laws.Rows
import Derived.Laws.Slices
import Derived.Laws.StructEq
import Derived.Lib.AppendStr
import Derived.Lib.ConvBytes
import Derived.Lib.SliceRun
import Derived.Maps.AppendAt
import Derived.OrdersHeld
import Derived.OwnWalk
import Derived.RowKit
import Derived.RowKit3
import Derived.Shelf.Abstract
import Derived.Shelf.Spec.TrailingZeros
import Derived.Tactics
import Derived.Test.YthbaocejgjpfoaaDoorProg
import Derived.WalkKit
import Derived.WideLaws
import Derived.Test.YthbaocejgjpfoaaDoorCFnExactExpressionText2
import Derived.Test.YthbaocejgjpfoaaDoorCFnExactExpressionText4
section M0
namespace Go.Proofs.YthbaocejgjpfoaaDoor.P
open Go.RowKit Go.Proofs.YthbaocejgjpfoaaDoor.Sh Go.Proofs.YthbaocejgjpfoaaDoorW.PrintWords Go.Proofs.YthbaocejgjpfoaaDoorW.PrintLast Go.Proofs.YthbaocejgjpfoaaDoorW.PrintMore
attribute [local go_sem] max2_int min2_int max_two min_two max_three min_three max_four min_four   -- for this text's walks alone
set_option linter.unusedVariables false
set_option linter.unusedSimpArgs false

/-! ### impl_IsAlphabet: function 58 -/
mutual
def impl_IsAlphabet.j0 : Nat → Bool → Int → List Int → Option (Bool)
 | 0, _, _, _ => none
 | k + 1, x22, x176000, x176001 => if x22 = true then (some false) else ((impl_converse.f k x176001).bind fun t179 => (impl_IsAlphabet.l0 k t179 (t179.length : Int) 0 x176000 x176001))
def impl_IsAlphabet.l0 : Nat → List Int → Int → Int → Int → List Int → Option (Bool)
 | 0, _, _, _, _, _ => none
 | k + 1, x25, x26, x27, x176000, x176001 => if x27 < x26 then (if 0 ≤ x27 then (if x27 < (x25.length : Int) then (if x27 < (x176001.length : Int) then (if (rd x25 x27) = (rd x176001 x27) then ((impl_has.f (rd x25 x27) x27).bind fun t184 => (if t184 = true then (impl_IsAlphabet.l0 k x25 x26 (wrap64 (x27 + 1)) x176000 x176001) else (some false))) else (some false)) else (none)) else (none)) else (none)) else (some true)
end
def impl_IsAlphabet.f (k : Nat) (a0_0 : Int) (l0_1 : List Int) : Option (Bool) := (impl_inRange.f a0_0 0 8).bind fun t176 => (if t176 = true then ((impl_length_int64_80.f l0_1).bind fun t177 => (if t177 = a0_0 then ((impl_IsRelation.f l0_1).bind fun t178 => (impl_IsAlphabet.j0 k (!t178) a0_0 l0_1)) else (impl_IsAlphabet.j0 k true a0_0 l0_1))) else (impl_IsAlphabet.j0 k true a0_0 l0_1))
theorem impl_IsAlphabet.mono_l : ∀ k, (∀ y0 y1 y2, LeO (impl_IsAlphabet.j0 k y0 y1 y2) (impl_IsAlphabet.j0 (k + 1) y0 y1 y2)) ∧ (∀ y0 y1 y2 y3 y4, LeO (impl_IsAlphabet.l0 k y0 y1 y2 y3 y4) (impl_IsAlphabet.l0 (k + 1) y0 y1 y2 y3 y4))
 | 0 => ⟨fun _ _ _ r h => by simp [impl_IsAlphabet.j0] at h, fun _ _ _ _ _ r h => by simp [impl_IsAlphabet.l0] at h⟩
 | k + 1 => by
  obtain ⟨ih0, ih1⟩ := impl_IsAlphabet.mono_l k
  refine ⟨?_, ?_⟩
  ·intro y0 y1 y2
   unfold impl_IsAlphabet.j0
   repeat' first
   | (with_reducible exact ih0 _ _ _)
   | (with_reducible exact ih1 _ _ _ _ _)
   | (with_reducible exact impl_converse.mono _ _)
   | (with_reducible exact LeO.refl _)
   | (with_reducible exact LeO.none _)
   | (with_reducible refine LeO.ite ?_ ?_)
   | (with_reducible refine LeO.bind ?_ (fun _ => ?_))
   | exact ih0 _ _ _
   | exact ih1 _ _ _ _ _
   | exact impl_converse.mono _ _
   | exact LeO.none _
   | refine LeO.ite ?_ ?_
   | refine LeO.bind ?_ (fun _ => ?_)
  ·intro y0 y1 y2 y3 y4
   unfold impl_IsAlphabet.l0
   repeat' first
   | (with_reducible exact ih0 _ _ _)
   | (with_reducible exact ih1 _ _ _ _ _)
   | (with_reducible exact impl_converse.mono _ _)
   | (with_reducible exact LeO.refl _)
   | (with_reducible exact LeO.none _)
   | (with_reducible refine LeO.ite ?_ ?_)
   | (with_reducible refine LeO.bind ?_ (fun _ => ?_))
   | exact ih0 _ _ _
   | exact ih1 _ _ _ _ _
   | exact impl_converse.mono _ _
   | exact LeO.none _
   | refine LeO.ite ?_ ?_
   | refine LeO.bind ?_ (fun _ => ?_)
theorem impl_IsAlphabet.mono : ∀ a0 a1 k, LeO (impl_IsAlphabet.f k a0 a1) (impl_IsAlphabet.f (k + 1) a0 a1) := by
 intro a0 a1 k
 obtain ⟨ih0, ih1⟩ := impl_IsAlphabet.mono_l k
 unfold impl_IsAlphabet.f
 repeat' first
   | (with_reducible exact ih0 _ _ _)
   | (with_reducible exact ih1 _ _ _ _ _)
   | (with_reducible exact impl_converse.mono _ _)
   | (with_reducible exact LeO.refl _)
   | (with_reducible exact LeO.none _)
   | (with_reducible refine LeO.ite ?_ ?_)
   | (with_reducible refine LeO.bind ?_ (fun _ => ?_))
   | exact ih0 _ _ _
   | exact ih1 _ _ _ _ _
   | exact impl_converse.mono _ _
   | exact LeO.none _
   | refine LeO.ite ?_ ?_
   | refine LeO.bind ?_ (fun _ => ?_)
def impl_IsAlphabet.T1 : Bool × List (List Nat × List Nat) := (true, [([], []), ([0], [0]), ([1], [1]), ([2], [2]), ([3, 2], [3]), ([4], [4]), ([5, 4], [4, 5]), ([6, 4, 4], [4, 6]), ([4], [4]), ([8, 4], [4, 8]), ([7, 9, 4], [4, 7, 9]), ([4, 10], [4, 10]), ([11, 7], [11]), ([12], [12]), ([13, 12], [12, 13]), ([14, 12, 12], [12, 14]), ([15, 12], [12, 15]), ([12, 16], [12, 16])])
def impl_IsAlphabet.B1 : List Nat := [0, 1, 3, 7, 15, 31, 63, 127, 31, 287, 1023, 2047, 4095, 8191, 16383, 32767, 65535, 131071]
theorem impl_IsAlphabet.tab1 : rtab .any (opsOf Tryd.f58 1) = impl_IsAlphabet.T1 := by kernel_rfl
theorem impl_IsAlphabet.bits1 : waitsOk impl_IsAlphabet.T1.2 impl_IsAlphabet.B1 = true := by kernel_rfl
set_option maxHeartbeats 8000000 in
set_option maxRecDepth 100000 in
theorem impl_IsAlphabet.calls (k : Nat) (a0_0 : Int) (A0_1 : Option Addr) (c0_1 : Nat) (l0_1 : List Int) (r : Bool) (w : World) (hr0_1 : Kd.C (Kd.int .i64) w A0_1 l0_1.length l0_1) (hc0_1 : l0_1.length ≤ c0_1) (h : impl_IsAlphabet.f k a0_0 l0_1 = some r) (hTab : Tab w) :
  Calls Tryd.prog 58 #[.agg #[.int .i64 a0_0, .slice A0_1 l0_1.length c0_1]] w fun e w' => e = .returned (.bool r) ∧ Below w.heap.size w w' := by
 have HTab := Aside0.mk hTab
 clear hTab
 have hu29 := Tryd.underlying29
 have HR0_1 := Aside0.mk hr0_1
 have HC0_1 := Aside0.mk hc0_1
 clear hr0_1 hc0_1
 have HB := Aside0.mk (Below.refl w.heap.size w)
 have H : ((impl_inRange.f a0_0 0 8).bind fun t176 => (if t176 = true then ((impl_length_int64_80.f l0_1).bind fun t177 => (if t177 = a0_0 then ((impl_IsRelation.f l0_1).bind fun t178 => (impl_IsAlphabet.j0 k (!t178) a0_0 l0_1)) else (impl_IsAlphabet.j0 k true a0_0 l0_1))) else (impl_IsAlphabet.j0 k true a0_0 l0_1))) = some r := h
 clear h
 have HC2 := Aside0.mk H
 clear H
 go_enter Tryd.func58, Tryd.ntmps58
 go_upto_region 1 with (first | ((with_reducible refine gate_dst (N := 1) rfl ?_); refine boxS (N := 1) (cs := #[.int .i64 a0_0, .slice A0_1 l0_1.length c0_1]) (t := 29) ?_; intro gb175 hg w3 hbox hb; have n0_ := Aside0.mk (below_step (bW) hb); have n1_ := Aside0.mk (hbox); have n2_ := geW (w := w) hg; have n3_ := geW (w := w) hg; clear HB; have HB := n0_; have BK175 := n1_; have GW175 := n2_; have GE175 := n3_; clear n0_ n1_ n2_ n3_; clear hb hbox hg))
 (try simp only [Act.put, List.setIfInBounds_toArray, List.set_cons_zero, List.set_cons_succ])
 go_cut [22] (fun v22 wc => ∃ (kq : Nat) (x22_1 : Bool), v22 = .bool x22_1 ∧ Aside0 (impl_IsAlphabet.j0 kq x22_1 a0_0 l0_1 = some r) ∧ Aside0 (kq ≤ k) ∧ Aside0 (wc.heap[gb175]? = some (.cells #[.int .i64 a0_0, (.slice A0_1 l0_1.length c0_1)] 29 (0, 0))) ∧ Aside0 (Below w.heap.size w wc))
 case first =>
  have H := HC2.out
  clear HC2
  replace H := Option.bind_eq_some_iff.mp H
  obtain ⟨t176, A40, H⟩ := H
  replace H : (if t176 = true then ((impl_length_int64_80.f l0_1).bind fun t177 => (if t177 = a0_0 then ((impl_IsRelation.f l0_1).bind fun t178 => (impl_IsAlphabet.j0 k (!t178) a0_0 l0_1)) else (impl_IsAlphabet.j0 k true a0_0 l0_1))) else (impl_IsAlphabet.j0 k true a0_0 l0_1)) = some r := H
  have A4 := Aside0.mk A40
  clear A40
  by_cases c5 : t176 = true
  ·subst c5
   have H1 : ((impl_length_int64_80.f l0_1).bind fun t177 => (if t177 = a0_0 then ((impl_IsRelation.f l0_1).bind fun t178 => (impl_IsAlphabet.j0 k (!t178) a0_0 l0_1)) else (impl_IsAlphabet.j0 k true a0_0 l0_1))) = some r := by rw [if_pos rfl] at H; exact H
   clear H
   have H := H1
   clear H1
   replace H := Option.bind_eq_some_iff.mp H
   obtain ⟨t177, A60, H⟩ := H
   replace H : (if t177 = a0_0 then ((impl_IsRelation.f l0_1).bind fun t178 => (impl_IsAlphabet.j0 k (!t178) a0_0 l0_1)) else (impl_IsAlphabet.j0 k true a0_0 l0_1)) = some r := H
   have A6 := Aside0.mk A60
   clear A60
   by_cases c7 : t177 = a0_0
   ·rw [if_pos c7] at H
    have c7b0 : (t177 == a0_0) = true := beq_iff_eq.mpr c7
    have c7b1 : (t177 != a0_0) = false := bne_eq_false_iff_eq.mpr c7
    clear c7
    (first | rw [c7b0] | (simp only [i64_w, i32_w]; rw [c7b0]) | skip)
    replace H := Option.bind_eq_some_iff.mp H
    obtain ⟨t178, A80, H⟩ := H
    replace H : (impl_IsAlphabet.j0 k (!t178) a0_0 l0_1) = some r := H
    have A8 := Aside0.mk A80
    clear A80
    have H' := Aside0.mk H
    clear H
    try go_wp2
    have n0_ := Aside0.mk (blk_drew BK175.out)
    have n1_ := Aside0.mk (below_drew1 HB.out)
    clear BK175
    clear HB
    have BK175 := n0_
    have HB := n1_
    clear n0_ n1_
    refine start_ (n := 18) (S := fun w' => w'.cell? ⟨gb175, 0, none⟩ = some (.int .i64 a0_0) ∧ w'.cell? ⟨gb175, 1, none⟩ = some (.slice A0_1 l0_1.length c0_1)) (ds := []) #[false, false, false, false, false, false, false, false, false, false, false, false, false, false, false, false, false, false] (by kernel_rfl) rfl rfl ⟨(blk_cell BK175.out 0).trans rfl, (blk_cell BK175.out 1).trans rfl⟩ (fun hHeld => ?_); refine with_tabW impl_IsAlphabet.tab1 impl_IsAlphabet.bits1 (fun HT_ HW_ => ?_)
    generalize w3.drew = w9 at BK175 HB hHeld ⊢
    refine pureS (i := 0) (N := some 5) (any_of HT_.out (by kernel_rfl)) ?_
    refine takeS (i := 1) (N := some 6) (take_ofW HT_.out HW_.out (by kernel_rfl)) hHeld ?_
    refine one_ (i := 2) (N := some 7) #[true, true, true, false, false, false, false, false, false, false, false, false, false, false, false, false, false, false] rfl rfl (one_of HT_.out (by kernel_rfl)) (by decide) (fun K hK => ?_)
    refine goes_ Tryd.func109 (by kernel_rfl) rfl #[.int .i64 a0_0, .int .i64 0, .int .i64 8] (by rfl) rfl rfl (by (try simp only [List.map_toArray, List.map_cons, List.map_nil]); first | done | rfl | (simp only [List.length_drop, List.length_take]; rfl)) ?_
    with_reducible refine (impl_inRange.calls a0_0 0 8 true _ A4.out).mono ?_
    rintro e w' ⟨rfl, ⟨nd, rfl⟩⟩
    refine ⟨_, rfl, ?_⟩
    refine hK.out _ _ ⟨(blk_cell BK175.out 0).trans rfl, (blk_cell BK175.out 1).trans rfl⟩ (fun hHeld => ?_)
    clear hK K
    refine norm_ (a' := ?_) ?_ ?_
    rotate_left
    ·show Act.put _ (some 7) _ = _
     simp only [Act.put, List.setIfInBounds_toArray, List.set_cons_zero, List.set_cons_succ, i64_w, i32_w]
     rfl
    refine pureS (i := 3) (N := some 8) (any_of HT_.out (by kernel_rfl)) ?_
    refine pureS (i := 4) (N := some 9) (any_of HT_.out (by kernel_rfl)) ?_
    refine pureS (i := 5) (N := some 10) (any_of HT_.out (by kernel_rfl)) ?_
    refine pureS (i := 8) (N := some 13) (any_of HT_.out (by kernel_rfl)) ?_
    refine takeS (i := 6) (N := some 11) (take_ofW HT_.out HW_.out (by kernel_rfl)) hHeld ?_
    refine takeS (i := 9) (N := some 14) (take_ofW HT_.out HW_.out (by kernel_rfl)) hHeld ?_
    refine one_ (i := 7) (N := some 12) #[true, true, true, true, true, true, true, true, true, true, false, false, false, false, false, false, false, false] rfl rfl (one_of HT_.out (by kernel_rfl)) (by decide) (fun K hK => ?_)
    refine goes_ Tryd.func80 (by kernel_rfl) rfl #[.slice A0_1 l0_1.length c0_1] (by rfl) rfl rfl (by (try simp only [List.map_toArray, List.map_cons, List.map_nil]); first | done | rfl | (simp only [List.length_drop, List.length_take]; rfl)) ?_
    with_reducible refine (impl_length_int64_80.calls _ _ l0_1 t177 _ ?side1 ?side2 A6.out).mono ?_
    (case side1 => exact cP (Kd.C_below HR0_1.out (bW)))
    (case side2 => exact HC0_1.out)
    rintro e w' ⟨rfl, ⟨nd, rfl⟩⟩
    refine ⟨_, rfl, ?_⟩
    refine hK.out _ _ ⟨(blk_cell BK175.out 0).trans rfl, (blk_cell BK175.out 1).trans rfl⟩ (fun hHeld => ?_)
    clear hK K
    refine norm_ (a' := ?_) ?_ ?_
    rotate_left
    ·show Act.put _ (some 12) _ = _
     simp only [Act.put, List.setIfInBounds_toArray, List.set_cons_zero, List.set_cons_succ, i64_w, i32_w]
     rfl
    refine pureS (i := 10) (N := some 15) (any_of HT_.out (by kernel_rfl)) ?_
    refine pureS (i := 11) (N := some 16) (any_of HT_.out (by kernel_rfl)) ?_
    refine pureS (i := 12) (N := some 17) (any_of HT_.out (by kernel_rfl)) ?_
    refine pureS (i := 13) (N := some 18) (any_of HT_.out (by kernel_rfl)) ?_
    refine takeS (i := 14) (N := some 19) (take_ofW HT_.out HW_.out (by kernel_rfl)) hHeld ?_
    refine one_ (i := 15) (N := some 20) #[true, true, true, true, true, true, true, true, true, true, true, true, true, true, true, true, false, false] rfl rfl (one_of HT_.out (by kernel_rfl)) (by decide) (fun K hK => ?_)
    refine goes_ Tryd.func110 (by kernel_rfl) rfl #[.slice A0_1 l0_1.length c0_1] (by rfl) rfl rfl (by (try simp only [List.map_toArray, List.map_cons, List.map_nil]); first | done | rfl | (simp only [List.length_drop, List.length_take]; rfl)) ?_
    with_reducible refine (impl_IsRelation.calls _ _ l0_1 t178 _ ?side1 ?side2 A8.out).mono ?_
    (case side1 => exact cP (Kd.C_below HR0_1.out (bW)))
    (case side2 => exact HC0_1.out)
    rintro e w10 ⟨rfl, hb⟩
    refine ⟨_, rfl, ?_⟩
    have n0_ := Aside0.mk (blkB BK175.out hb)
    have n1_ := Aside0.mk (below_step (bW) hb)
    clear BK175
    clear HB
    have BK175 := n0_
    have HB := n1_
    clear n0_ n1_
    (try clear hb)
    (try clear hb2)
    (try clear hk)
    (try clear hi)
    refine hK.out _ _ ⟨(blk_cell BK175.out 0).trans rfl, (blk_cell BK175.out 1).trans rfl⟩ (fun hHeld => ?_)
    clear hK K
    refine norm_ (a' := ?_) ?_ ?_
    rotate_left
    ·show Act.put _ (some 20) _ = _
     simp only [Act.put, List.setIfInBounds_toArray, List.set_cons_zero, List.set_cons_succ, i64_w, i32_w]
     rfl
    refine pureS (i := 16) (N := some 21) (any_of HT_.out (by kernel_rfl)) ?_
    refine pureS (i := 17) (N := some 22) (any_of HT_.out (by kernel_rfl)) ?_
    refine done_ (done_of HT_.out (by kernel_rfl)) ?_
    try go_wp2
    go_meet
    case rel => exact ⟨_, (!t178), (eW), H', ⟨by first | omega | exact Nat.le_refl _⟩, ⟨(bP BK175.out)⟩, ⟨bW⟩⟩
   ·rw [if_neg c7] at H
    have c7b0 : (t177 == a0_0) = false := beq_eq_false_iff_ne.mpr c7
    have c7b1 : (t177 != a0_0) = true := bne_iff_ne.mpr c7
    (first | rw [c7b0] | (simp only [i64_w, i32_w]; rw [c7b0]) | skip)
    have H' := Aside0.mk H
    clear H
    try go_wp2
    have n0_ := Aside0.mk (blk_drew BK175.out)
    have n1_ := Aside0.mk (below_drew1 HB.out)
    clear BK175
    clear HB
    have BK175 := n0_
    have HB := n1_
    clear n0_ n1_
    refine start_ (n := 18) (S := fun w' => w'.cell? ⟨gb175, 0, none⟩ = some (.int .i64 a0_0) ∧ w'.cell? ⟨gb175, 1, none⟩ = some (.slice A0_1 l0_1.length c0_1)) (ds := []) #[false, false, false, false, false, false, false, false, false, false, false, false, false, false, false, false, false, false] (by kernel_rfl) rfl rfl ⟨(blk_cell BK175.out 0).trans rfl, (blk_cell BK175.out 1).trans rfl⟩ (fun hHeld => ?_); refine with_tabW impl_IsAlphabet.tab1 impl_IsAlphabet.bits1 (fun HT_ HW_ => ?_)
    generalize w3.drew = w11 at BK175 HB hHeld ⊢
    refine pureS (i := 0) (N := some 5) (any_of HT_.out (by kernel_rfl)) ?_
    refine takeS (i := 1) (N := some 6) (take_ofW HT_.out HW_.out (by kernel_rfl)) hHeld ?_
    refine one_ (i := 2) (N := some 7) #[true, true, true, false, false, false, false, false, false, false, false, false, false, false, false, false, false, false] rfl rfl (one_of HT_.out (by kernel_rfl)) (by decide) (fun K hK => ?_)
    refine goes_ Tryd.func109 (by kernel_rfl) rfl #[.int .i64 a0_0, .int .i64 0, .int .i64 8] (by rfl) rfl rfl (by (try simp only [List.map_toArray, List.map_cons, List.map_nil]); first | done | rfl | (simp only [List.length_drop, List.length_take]; rfl)) ?_
    with_reducible refine (impl_inRange.calls a0_0 0 8 true _ A4.out).mono ?_
    rintro e w' ⟨rfl, ⟨nd, rfl⟩⟩
    refine ⟨_, rfl, ?_⟩
    refine hK.out _ _ ⟨(blk_cell BK175.out 0).trans rfl, (blk_cell BK175.out 1).trans rfl⟩ (fun hHeld => ?_)
    clear hK K
    refine norm_ (a' := ?_) ?_ ?_
    rotate_left
    ·show Act.put _ (some 7) _ = _
     simp only [Act.put, List.setIfInBounds_toArray, List.set_cons_zero, List.set_cons_succ, i64_w, i32_w]
     rfl
    refine pureS (i := 3) (N := some 8) (any_of HT_.out (by kernel_rfl)) ?_
    refine pureS (i := 4) (N := some 9) (any_of HT_.out (by kernel_rfl)) ?_
    refine pureS (i := 5) (N := some 10) (any_of HT_.out (by kernel_rfl)) ?_
    refine pureS (i := 8) (N := some 13) (any_of HT_.out (by kernel_rfl)) ?_
    refine takeS (i := 6) (N := some 11) (take_ofW HT_.out HW_.out (by kernel_rfl)) hHeld ?_
    refine takeS (i := 9) (N := some 14) (take_ofW HT_.out HW_.out (by kernel_rfl)) hHeld ?_
    refine one_ (i := 7) (N := some 12) #[true, true, true, true, true, true, true, true, true, true, false, false, false, false, false, false, false, false] rfl rfl (one_of HT_.out (by kernel_rfl)) (by decide) (fun K hK => ?_)
    refine goes_ Tryd.func80 (by kernel_rfl) rfl #[.slice A0_1 l0_1.length c0_1] (by rfl) rfl rfl (by (try simp only [List.map_toArray, List.map_cons, List.map_nil]); first | done | rfl | (simp only [List.length_drop, List.length_take]; rfl)) ?_
    with_reducible refine (impl_length_int64_80.calls _ _ l0_1 t177 _ ?side1 ?side2 A6.out).mono ?_
    (case side1 => exact cP (Kd.C_below HR0_1.out (bW)))
    (case side2 => exact HC0_1.out)
    rintro e w' ⟨rfl, ⟨nd, rfl⟩⟩
    refine ⟨_, rfl, ?_⟩
    refine hK.out _ _ ⟨(blk_cell BK175.out 0).trans rfl, (blk_cell BK175.out 1).trans rfl⟩ (fun hHeld => ?_)
    clear hK K
    refine norm_ (a' := ?_) ?_ ?_
    rotate_left
    ·show Act.put _ (some 12) _ = _
     simp only [Act.put, List.setIfInBounds_toArray, List.set_cons_zero, List.set_cons_succ, i64_w, i32_w]
     rfl
    refine pureS (i := 10) (N := some 15) (any_of HT_.out (by kernel_rfl)) ?_
    refine pureS (i := 11) (N := some 16) (any_of HT_.out (by kernel_rfl)) ?_
    refine pureS (i := 12) (N := some 17) (any_of HT_.out (by kernel_rfl)) ?_
    refine pureU (i := 13) (N := some 18) (any_of HT_.out (by kernel_rfl)) ?_
    refine pureU (i := 14) (N := some 19) (any_of HT_.out (by kernel_rfl)) ?_
    refine pureU (i := 15) (N := some 20) (any_of HT_.out (by kernel_rfl)) ?_
    refine pureU (i := 16) (N := some 21) (any_of HT_.out (by kernel_rfl)) ?_
    refine pureS (i := 17) (N := some 22) (any_of HT_.out (by kernel_rfl)) ?_
    refine done_ (done_of HT_.out (by kernel_rfl)) ?_
    try go_wp2
    go_meet
    case rel => exact ⟨_, (true), (eW), H', ⟨by first | omega | exact Nat.le_refl _⟩, ⟨(bP BK175.out)⟩, ⟨bW⟩⟩
  ·replace c5 := Bool.eq_false_iff.mpr c5
   subst c5
   have H1 : (impl_IsAlphabet.j0 k true a0_0 l0_1) = some r := by rw [if_neg (show ¬ (false = true) by decide)] at H; exact H
   clear H
   have H := H1
   clear H1
   have H' := Aside0.mk H
   clear H
   try go_wp2
   have n0_ := Aside0.mk (blk_drew BK175.out)
   have n1_ := Aside0.mk (below_drew1 HB.out)
   clear BK175
   clear HB
   have BK175 := n0_
   have HB := n1_
   clear n0_ n1_
   refine start_ (n := 18) (S := fun w' => w'.cell? ⟨gb175, 0, none⟩ = some (.int .i64 a0_0) ∧ w'.cell? ⟨gb175, 1, none⟩ = some (.slice A0_1 l0_1.length c0_1)) (ds := []) #[false, false, false, false, false, false, false, false, false, false, false, false, false, false, false, false, false, false] (by kernel_rfl) rfl rfl ⟨(blk_cell BK175.out 0).trans rfl, (blk_cell BK175.out 1).trans rfl⟩ (fun hHeld => ?_); refine with_tabW impl_IsAlphabet.tab1 impl_IsAlphabet.bits1 (fun HT_ HW_ => ?_)
   generalize w3.drew = w12 at BK175 HB hHeld ⊢
   refine pureS (i := 0) (N := some 5) (any_of HT_.out (by kernel_rfl)) ?_
   refine takeS (i := 1) (N := some 6) (take_ofW HT_.out HW_.out (by kernel_rfl)) hHeld ?_
   refine one_ (i := 2) (N := some 7) #[true, true, true, false, false, false, false, false, false, false, false, false, false, false, false, false, false, false] rfl rfl (one_of HT_.out (by kernel_rfl)) (by decide) (fun K hK => ?_)
   refine goes_ Tryd.func109 (by kernel_rfl) rfl #[.int .i64 a0_0, .int .i64 0, .int .i64 8] (by rfl) rfl rfl (by (try simp only [List.map_toArray, List.map_cons, List.map_nil]); first | done | rfl | (simp only [List.length_drop, List.length_take]; rfl)) ?_
   with_reducible refine (impl_inRange.calls a0_0 0 8 false _ A4.out).mono ?_
   rintro e w' ⟨rfl, ⟨nd, rfl⟩⟩
   refine ⟨_, rfl, ?_⟩
   refine hK.out _ _ ⟨(blk_cell BK175.out 0).trans rfl, (blk_cell BK175.out 1).trans rfl⟩ (fun hHeld => ?_)
   clear hK K
   refine norm_ (a' := ?_) ?_ ?_
   rotate_left
   ·show Act.put _ (some 7) _ = _
    simp only [Act.put, List.setIfInBounds_toArray, List.set_cons_zero, List.set_cons_succ, i64_w, i32_w]
    rfl
   refine pureS (i := 3) (N := some 8) (any_of HT_.out (by kernel_rfl)) ?_
   refine pureS (i := 4) (N := some 9) (any_of HT_.out (by kernel_rfl)) ?_
   refine pureU (i := 5) (N := some 10) (any_of HT_.out (by kernel_rfl)) ?_
   refine pureU (i := 6) (N := some 11) (any_of HT_.out (by kernel_rfl)) ?_
   refine pureU (i := 7) (N := some 12) (any_of HT_.out (by kernel_rfl)) ?_
   refine pureU (i := 8) (N := some 13) (any_of HT_.out (by kernel_rfl)) ?_
   refine pureU (i := 9) (N := some 14) (any_of HT_.out (by kernel_rfl)) ?_
   refine pureU (i := 10) (N := some 15) (any_of HT_.out (by kernel_rfl)) ?_
   refine pureS (i := 11) (N := some 16) (any_of HT_.out (by kernel_rfl)) ?_
   refine pureS (i := 12) (N := some 17) (any_of HT_.out (by kernel_rfl)) ?_
   refine pureU (i := 13) (N := some 18) (any_of HT_.out (by kernel_rfl)) ?_
   refine pureU (i := 14) (N := some 19) (any_of HT_.out (by kernel_rfl)) ?_
   refine pureU (i := 15) (N := some 20) (any_of HT_.out (by kernel_rfl)) ?_
   refine pureU (i := 16) (N := some 21) (any_of HT_.out (by kernel_rfl)) ?_
   refine pureS (i := 17) (N := some 22) (any_of HT_.out (by kernel_rfl)) ?_
   refine done_ (done_of HT_.out (by kernel_rfl)) ?_
   try go_wp2
   go_meet
   case rel => exact ⟨_, (true), (eW), H', ⟨by first | omega | exact Nat.le_refl _⟩, ⟨(bP BK175.out)⟩, ⟨bW⟩⟩
 case rest =>
  clear HC2
  try clear c1
  try clear p2
  try clear c5
  try clear c7
  try clear c7b0
  try clear c7b1
  try clear c8
  try clear c10
  try clear c11
  obtain ⟨kq, x22_1, rfl, HA, HJ1, BK175, HB⟩ := hcut
  cases kq with
  | zero => exact absurd HA.out (by simp [impl_IsAlphabet.j0])
  | succ kj1 =>
   have H := HA.out
   clear HA
   simp only [impl_IsAlphabet.j0] at H
   by_cases c13 : x22_1 = true
   ·subst c13
    have H1 : (some false) = some r := by rw [if_pos rfl] at H; exact H
    clear H
    have H := H1
    clear H1
    obtain rfl := Option.some.inj H
    go_wp2
    go_ret
    exact ⟨eW, bW⟩
   ·replace c13 := Bool.eq_false_iff.mpr c13
    subst c13
    have H1 : ((impl_converse.f kj1 l0_1).bind fun t179 => (impl_IsAlphabet.l0 kj1 t179 (t179.length : Int) 0 a0_0 l0_1)) = some r := by rw [if_neg (show ¬ (false = true) by decide)] at H; exact H
    clear H
    have H := H1
    clear H1
    replace H := Option.bind_eq_some_iff.mp H
    obtain ⟨t179, A140, H⟩ := H
    replace H : (impl_IsAlphabet.l0 kj1 t179 (t179.length : Int) 0 a0_0 l0_1) = some r := H
    have A14 := Aside0.mk A140
    clear A140
    have H' := Aside0.mk H
    clear H
    have hcz15_0 : wc.cell? ⟨gb175, 0, none⟩ = some (.int .i64 a0_0) := (blk_cell BK175.out 0).trans rfl
    have hcz15_1 : wc.cell? ⟨gb175, 1, none⟩ = some (.slice A0_1 l0_1.length c0_1) := (blk_cell BK175.out 1).trans rfl
    have hfz15_0 := blk_frozen BK175.out 0
    have hfz15_1 := blk_frozen BK175.out 1
    go_wp2_with (first | ((with_reducible refine gate_callee (f := 111) rfl ?_); refine goesS (some 25) Tryd.func111 #[.slice A0_1 l0_1.length c0_1] ?_; (with_reducible refine (impl_converse.calls kj1 _ _ l0_1 t179 _ ?side1 ?side2 A14.out (tabW HTab.out)).mono ?_); (case side1 => exact cP (Kd.C_below HR0_1.out HB.out)); (case side2 => exact HC0_1.out); rintro e w16 ⟨v180, rfl, ho0, hb⟩; refine ⟨_, rfl, ?_⟩; have n0_ := Aside0.mk (Kd.R_lower ho0 (below_size (bW))); have n1_ := Aside0.mk (blkB BK175.out hb); have n2_ := Aside0.mk (below_step (bW) hb); clear BK175; clear HB; have HO181 := n0_; have BK175 := n1_; have HB := n2_; clear n0_ n1_ n2_; (try clear hb); (try clear hb2); (try clear hk); (try clear hi); (try clear ho0); obtain ⟨Ao17, co17, eo17⟩ := Kd.R_slice HO181.out; subst eo17))
    go_loopg [27] kj1 (fun kq v27 w' => ∃ (x27_2 : Int), v27 = .int .i64 x27_2 ∧ Aside0 (impl_IsAlphabet.l0 kq t179 (t179.length : Int) x27_2 a0_0 l0_1 = some r) ∧ Aside0 (kq ≤ kj1) ∧ Aside0 (Kd.R (Kd.int .i64) 2 w' w.heap.size (fun _ => True) (.slice Ao17 t179.length co17) t179) ∧ Aside0 (w'.heap[gb175]? = some (.cells #[.int .i64 a0_0, (.slice A0_1 l0_1.length c0_1)] 29 (0, 0))) ∧ Aside0 (Below w.heap.size w w'))
    case atStart => exact ⟨(0), (eW), H', ⟨Nat.le_refl _⟩, ⟨(rP HO181.out)⟩, ⟨(bP BK175.out)⟩, ⟨bW⟩⟩
    case round =>
     clear H'
     try clear c1
     try clear p2
     try clear c5
     try clear c7
     try clear c7b0
     try clear c7b1
     try clear c8
     try clear c10
     try clear c11
     try clear c13
     try clear hcz15_0
     try clear hcz15_1
     try clear hfz15_0
     try clear hfz15_1
     try clear p2
     obtain ⟨x27_2, rfl, HA, HK2, HO_25, BK175, HB⟩ := hrel
     cases gk with
     | zero => exact absurd HA.out (by simp [impl_IsAlphabet.l0])
     | succ k2 =>
      have H := HA.out
      clear HA
      simp only [impl_IsAlphabet.l0] at H
      by_cases c18 : x27_2 < (t179.length : Int)
      ·rw [if_pos c18] at H
       have c18b0 : decide (x27_2 < (t179.length : Int)) = true := decide_eq_true c18
       clear c18
       by_cases c19 : 0 ≤ x27_2
       ·rw [if_pos c19] at H
        have c19b0 : decide (0 ≤ x27_2) = true := decide_eq_true c19
        clear c19
        by_cases c20 : x27_2 < (t179.length : Int)
        ·rw [if_pos c20] at H
         have c20b0 : decide (x27_2 < (t179.length : Int)) = true := decide_eq_true c20
         clear c20
         by_cases c21 : x27_2 < (l0_1.length : Int)
         ·rw [if_pos c21] at H
          have c21b0 : decide (x27_2 < (l0_1.length : Int)) = true := decide_eq_true c21
          clear c21
          by_cases c22 : (rd t179 x27_2) = (rd l0_1 x27_2)
          ·rw [if_pos c22] at H
           have c22b0 : ((rd t179 x27_2) == (rd l0_1 x27_2)) = true := beq_iff_eq.mpr c22
           have c22b1 : ((rd t179 x27_2) != (rd l0_1 x27_2)) = false := bne_eq_false_iff_eq.mpr c22
           clear c22
           replace H := Option.bind_eq_some_iff.mp H
           obtain ⟨t184, A230, H⟩ := H
           replace H : (if t184 = true then (impl_IsAlphabet.l0 k2 t179 (t179.length : Int) (wrap64 (x27_2 + 1)) a0_0 l0_1) else (some false)) = some r := H
           have A23 := Aside0.mk A230
           clear A230
           by_cases c24 : t184 = true
           ·subst c24
            have H1 : (impl_IsAlphabet.l0 k2 t179 (t179.length : Int) (wrap64 (x27_2 + 1)) a0_0 l0_1) = some r := by rw [if_pos rfl] at H; exact H
            clear H
            have H := H1
            clear H1
            have H' := Aside0.mk H
            clear H
            have p182 : 0 ≤ (x27_2 : Int) := ofD
            have q182 : x27_2 < (t179.length : Int) := ofD
            obtain ⟨ad182, e182, hx182_0⟩ := Kd.at_int (Kd.R_reads' HO_25.out).2.2 x27_2 p182 q182
            cases e182
            replace p182 := eq_true p182
            replace q182 := eq_true q182
            have hcz25_0 : wr.cell? ⟨gb175, 0, none⟩ = some (.int .i64 a0_0) := (blk_cell BK175.out 0).trans rfl
            have hcz25_1 : wr.cell? ⟨gb175, 1, none⟩ = some (.slice A0_1 l0_1.length c0_1) := (blk_cell BK175.out 1).trans rfl
            have hfz25_0 := blk_frozen BK175.out 0
            have hfz25_1 := blk_frozen BK175.out 1
            have p183 : 0 ≤ (x27_2 : Int) := ofD
            have q183 : x27_2 < (l0_1.length : Int) := ofD
            obtain ⟨ad183, e183, hx183_0⟩ := Kd.at_int HR0_1.out x27_2 p183 q183
            cases e183
            replace hx183_0 := (HB.out.cell (World.block_lt_of_cell? w _ hx183_0)).trans hx183_0
            replace p183 := eq_true p183
            replace q183 := eq_true q183
            go_wp2_with (first | (go_at_call 112; (with_reducible refine (impl_has.calls (rd t179 x27_2) x27_2 true _ A23.out).mono ?_); rintro e w' ⟨rfl, ⟨nd, rfl⟩⟩))
            go_roundg k2
            case measure => have := HJ1.out; have := HK2.out; omega
            case rel => exact ⟨(wrap64 (x27_2 + 1)), (eW), H', ⟨by have := HJ1.out; have := HK2.out; omega⟩, ⟨(rP HO_25.out)⟩, ⟨(bP BK175.out)⟩, ⟨bW⟩⟩
           ·replace c24 := Bool.eq_false_iff.mpr c24
            subst c24
            have H1 : (some false) = some r := by rw [if_neg (show ¬ (false = true) by decide)] at H; exact H
            clear H
            have H := H1
            clear H1
            obtain rfl := Option.some.inj H
            have p182 : 0 ≤ (x27_2 : Int) := ofD
            have q182 : x27_2 < (t179.length : Int) := ofD
            obtain ⟨ad182, e182, hx182_0⟩ := Kd.at_int (Kd.R_reads' HO_25.out).2.2 x27_2 p182 q182
            cases e182
            replace p182 := eq_true p182
            replace q182 := eq_true q182
            have hcz26_0 : wr.cell? ⟨gb175, 0, none⟩ = some (.int .i64 a0_0) := (blk_cell BK175.out 0).trans rfl
            have hcz26_1 : wr.cell? ⟨gb175, 1, none⟩ = some (.slice A0_1 l0_1.length c0_1) := (blk_cell BK175.out 1).trans rfl
            have hfz26_0 := blk_frozen BK175.out 0
            have hfz26_1 := blk_frozen BK175.out 1
            have p183 : 0 ≤ (x27_2 : Int) := ofD
            have q183 : x27_2 < (l0_1.length : Int) := ofD
            obtain ⟨ad183, e183, hx183_0⟩ := Kd.at_int HR0_1.out x27_2 p183 q183
            cases e183
            replace hx183_0 := (HB.out.cell (World.block_lt_of_cell? w _ hx183_0)).trans hx183_0
            replace p183 := eq_true p183
            replace q183 := eq_true q183
            go_wp2_with (first | (go_at_call 112; (with_reducible refine (impl_has.calls (rd t179 x27_2) x27_2 false _ A23.out).mono ?_); rintro e w' ⟨rfl, ⟨nd, rfl⟩⟩))
            go_ret
            exact ⟨eW, bW⟩
          ·rw [if_neg c22] at H
           have c22b0 : ((rd t179 x27_2) == (rd l0_1 x27_2)) = false := beq_eq_false_iff_ne.mpr c22
           have c22b1 : ((rd t179 x27_2) != (rd l0_1 x27_2)) = true := bne_iff_ne.mpr c22
           obtain rfl := Option.some.inj H
           have p182 : 0 ≤ (x27_2 : Int) := ofD
           have q182 : x27_2 < (t179.length : Int) := ofD
           obtain ⟨ad182, e182, hx182_0⟩ := Kd.at_int (Kd.R_reads' HO_25.out).2.2 x27_2 p182 q182
           cases e182
           replace p182 := eq_true p182
           replace q182 := eq_true q182
           have hcz27_0 : wr.cell? ⟨gb175, 0, none⟩ = some (.int .i64 a0_0) := (blk_cell BK175.out 0).trans rfl
           have hcz27_1 : wr.cell? ⟨gb175, 1, none⟩ = some (.slice A0_1 l0_1.length c0_1) := (blk_cell BK175.out 1).trans rfl
           have hfz27_0 := blk_frozen BK175.out 0
           have hfz27_1 := blk_frozen BK175.out 1
           have p183 : 0 ≤ (x27_2 : Int) := ofD
           have q183 : x27_2 < (l0_1.length : Int) := ofD
           obtain ⟨ad183, e183, hx183_0⟩ := Kd.at_int HR0_1.out x27_2 p183 q183
           cases e183
           replace hx183_0 := (HB.out.cell (World.block_lt_of_cell? w _ hx183_0)).trans hx183_0
           replace p183 := eq_true p183
           replace q183 := eq_true q183
           go_wp2
           go_ret
           exact ⟨eW, bW⟩
         ·rw [if_neg c21] at H
          exact absurd H (by simp)
        ·rw [if_neg c20] at H
         exact absurd H (by simp)
       ·rw [if_neg c19] at H
        exact absurd H (by simp)
      ·rw [if_neg c18] at H
       have c18b0 : decide (x27_2 < (t179.length : Int)) = false := decide_eq_false c18
       clear c18
       obtain rfl := Option.some.inj H
       go_wp2
       go_ret
       exact ⟨eW, bW⟩

/-! ### impl_isWord: function 59 -/
def impl_isWord.f (a0_0 : Int) (l0_1 : List Int) (l1 : List Int) : Option (Bool) := if (l1.length : Int) ≤ 24 then ((impl_allIn.f l1 0 (wrap64 (a0_0 - 1))).bind fun t186 => (some t186)) else (some false)
set_option maxHeartbeats 8000000 in
set_option maxRecDepth 100000 in
theorem impl_isWord.calls (a0_0 : Int) (A0_1 : Option Addr) (c0_1 : Nat) (l0_1 : List Int) (A1 : Option Addr) (c1 : Nat) (l1 : List Int) (r : Bool) (w : World) (hr0_1 : Kd.C (Kd.int .i64) w A0_1 l0_1.length l0_1) (hc0_1 : l0_1.length ≤ c0_1) (hr1 : Kd.C (Kd.int .i64) w A1 l1.length l1) (hc1 : l1.length ≤ c1) (h : impl_isWord.f a0_0 l0_1 l1 = some r) :
  Calls Tryd.prog 59 #[.agg #[.int .i64 a0_0, .slice A0_1 l0_1.length c0_1], .slice A1 l1.length c1] w fun e w' => e = .returned (.bool r) ∧ Below w.heap.size w w' := by
 have hu29 := Tryd.underlying29
 have HR0_1 := Aside0.mk hr0_1
 have HC0_1 := Aside0.mk hc0_1
 clear hr0_1 hc0_1
 have HR1 := Aside0.mk hr1
 have HC1 := Aside0.mk hc1
 clear hr1 hc1
 have HB := Aside0.mk (Below.refl w.heap.size w)
 have H : (if (l1.length : Int) ≤ 24 then ((impl_allIn.f l1 0 (wrap64 (a0_0 - 1))).bind fun t186 => (some t186)) else (some false)) = some r := h
 clear h
 by_cases c3 : (l1.length : Int) ≤ 24
 ·rw [if_pos c3] at H
  have c3b0 : decide ((l1.length : Int) ≤ 24) = true := decide_eq_true c3
  have c3b1 : decide (l1.length ≤ 24) = true := decide_eq_true (by omega)
  clear c3
  replace H := Option.bind_eq_some_iff.mp H
  obtain ⟨t186, A40, H⟩ := H
  replace H : (some t186) = some r := H
  have A4 := Aside0.mk A40
  clear A40
  obtain rfl := Option.some.inj H
  go_enter Tryd.func59, Tryd.ntmps59
  go_wp2_with (first | ((with_reducible refine gate_dst (N := 2) rfl ?_); refine boxS (N := 2) (cs := #[.int .i64 a0_0, .slice A0_1 l0_1.length c0_1]) (t := 29) ?_; intro gb185 hg w5 hbox hb; have n0_ := Aside0.mk (below_step (bW) hb); have n1_ := Aside0.mk (hbox); have n2_ := geW (w := w) hg; have n3_ := geW (w := w) hg; clear HB; have HB := n0_; have BK185 := n1_; have GW185 := n2_; have GE185 := n3_; clear n0_ n1_ n2_ n3_; clear hb hbox hg; obtain ⟨hcz6_0, hcz6_1⟩ := cells2 BK185.out; obtain ⟨hfz6_0, hfz6_1⟩ := frz2 BK185.out) | (go_at_call 81; (with_reducible refine (impl_allIn.calls _ _ l1 0 (wrap64 (a0_0 - 1)) t186 _ ?side1 ?side2 A4.out).mono ?_); (case side1 => exact cP (Kd.C_below HR1.out HB.out)); (case side2 => exact HC1.out); rintro e w7 ⟨rfl, hb⟩; have n0_ := Aside0.mk (blkB BK185.out hb); have n1_ := Aside0.mk (below_step (bW) hb); clear BK185; clear HB; have BK185 := n0_; have HB := n1_; clear n0_ n1_; (try clear hb); (try clear hb2); (try clear hk); (try clear hi)))
  go_ret
  exact ⟨eW, bW⟩
 ·rw [if_neg c3] at H
  have c3b0 : decide ((l1.length : Int) ≤ 24) = false := decide_eq_false c3
  have c3b1 : decide (l1.length ≤ 24) = false := decide_eq_false (by omega)
  clear c3
  obtain rfl := Option.some.inj H
  go_enter Tryd.func59, Tryd.ntmps59
  go_wp2_with (first | ((with_reducible refine gate_dst (N := 2) rfl ?_); refine boxS (N := 2) (cs := #[.int .i64 a0_0, .slice A0_1 l0_1.length c0_1]) (t := 29) ?_; intro gb185 hg w8 hbox hb; have n0_ := Aside0.mk (below_step (bW) hb); have n1_ := Aside0.mk (hbox); have n2_ := geW (w := w) hg; have n3_ := geW (w := w) hg; clear HB; have HB := n0_; have BK185 := n1_; have GW185 := n2_; have GE185 := n3_; clear n0_ n1_ n2_ n3_; clear hb hbox hg))
  go_ret
  exact ⟨eW, bW⟩

/-! ### cmp_isNaN_int64: function 157 -/
def cmp_isNaN_int64.f (a0 : Int) : Option (Bool) := some (a0 != a0)
set_option maxHeartbeats 8000000 in
set_option maxRecDepth 100000 in
theorem cmp_isNaN_int64.calls (a0 : Int) (r : Bool) (w : World) (h : cmp_isNaN_int64.f a0 = some r) :
  Calls Tryd.prog 157 #[.int .i64 a0] w fun e w' => e = .returned (.bool r) ∧ Drawn0 w w' := by
 have H : (some (a0 != a0)) = some r := h
 clear h
 obtain rfl := Option.some.inj H
 go_enter Tryd.func157, Tryd.ntmps157
 go_wp2
 go_ret
 exact ⟨eW, by repeat (first | exact Drawn0.refl _ | apply Drawn0.step)⟩

/-! ### cmp_Compare_int64: function 134 -/
def cmp_Compare_int64.f (a0 : Int) (a1 : Int) : Option (Int) := (cmp_isNaN_int64.f a0).bind fun t187 => ((cmp_isNaN_int64.f a1).bind fun t188 => (if t187 = true then (if t188 = true then (some 0) else (some (-1))) else (if t188 = true then (some 1) else (if a0 < a1 then (some (-1)) else (if a0 > a1 then (some 1) else (some 0))))))
set_option maxHeartbeats 8000000 in
set_option maxRecDepth 100000 in
theorem cmp_Compare_int64.calls (a0 : Int) (a1 : Int) (r : Int) (w : World) (h : cmp_Compare_int64.f a0 a1 = some r) :
  Calls Tryd.prog 134 #[.int .i64 a0, .int .i64 a1] w fun e w' => e = .returned (.int .i64 r) ∧ Drawn0 w w' := by
 have H : ((cmp_isNaN_int64.f a0).bind fun t187 => ((cmp_isNaN_int64.f a1).bind fun t188 => (if t187 = true then (if t188 = true then (some 0) else (some (-1))) else (if t188 = true then (some 1) else (if a0 < a1 then (some (-1)) else (if a0 > a1 then (some 1) else (some 0))))))) = some r := h
 clear h
 replace H := Option.bind_eq_some_iff.mp H
 obtain ⟨t187, A30, H⟩ := H
 replace H : ((cmp_isNaN_int64.f a1).bind fun t188 => (if t187 = true then (if t188 = true then (some 0) else (some (-1))) else (if t188 = true then (some 1) else (if a0 < a1 then (some (-1)) else (if a0 > a1 then (some 1) else (some 0)))))) = some r := H
 have A3 := Aside0.mk A30
 clear A30
 replace H := Option.bind_eq_some_iff.mp H
 obtain ⟨t188, A40, H⟩ := H
 replace H : (if t187 = true then (if t188 = true then (some 0) else (some (-1))) else (if t188 = true then (some 1) else (if a0 < a1 then (some (-1)) else (if a0 > a1 then (some 1) else (some 0))))) = some r := H
 have A4 := Aside0.mk A40
 clear A40
 by_cases c5 : t187 = true
 ·subst c5
  have H1 : (if t188 = true then (some 0) else (some (-1))) = some r := by rw [if_pos rfl] at H; exact H
  clear H
  have H := H1
  clear H1
  by_cases c6 : t188 = true
  ·subst c6
   have H1 : (some 0) = some r := by rw [if_pos rfl] at H; exact H
   clear H
   have H := H1
   clear H1
   obtain rfl := Option.some.inj H
   go_enter Tryd.func134, Tryd.ntmps134
   go_wp2_with (first | ((with_reducible refine gate_callee (f := 157) rfl ?_); refine goesS (some 8) Tryd.func157 #[.int .i64 a0] ?_; (with_reducible refine (cmp_isNaN_int64.calls a0 true _ A3.out).mono ?_); rintro e w' ⟨rfl, ⟨nd, rfl⟩⟩; refine ⟨_, rfl, ?_⟩) | ((with_reducible refine gate_callee (f := 157) rfl ?_); refine goesS (some 10) Tryd.func157 #[.int .i64 a1] ?_; (with_reducible refine (cmp_isNaN_int64.calls a1 true _ A4.out).mono ?_); rintro e w' ⟨rfl, ⟨nd, rfl⟩⟩; refine ⟨_, rfl, ?_⟩))
   go_ret
   exact ⟨eW, by repeat (first | exact Drawn0.refl _ | apply Drawn0.step)⟩
  ·replace c6 := Bool.eq_false_iff.mpr c6
   subst c6
   have H1 : (some (-1)) = some r := by rw [if_neg (show ¬ (false = true) by decide)] at H; exact H
   clear H
   have H := H1
   clear H1
   obtain rfl := Option.some.inj H
   go_enter Tryd.func134, Tryd.ntmps134
   go_wp2_with (first | ((with_reducible refine gate_callee (f := 157) rfl ?_); refine goesS (some 8) Tryd.func157 #[.int .i64 a0] ?_; (with_reducible refine (cmp_isNaN_int64.calls a0 true _ A3.out).mono ?_); rintro e w' ⟨rfl, ⟨nd, rfl⟩⟩; refine ⟨_, rfl, ?_⟩) | ((with_reducible refine gate_callee (f := 157) rfl ?_); refine goesS (some 10) Tryd.func157 #[.int .i64 a1] ?_; (with_reducible refine (cmp_isNaN_int64.calls a1 false _ A4.out).mono ?_); rintro e w' ⟨rfl, ⟨nd, rfl⟩⟩; refine ⟨_, rfl, ?_⟩))
   go_ret
   exact ⟨eW, by repeat (first | exact Drawn0.refl _ | apply Drawn0.step)⟩
 ·replace c5 := Bool.eq_false_iff.mpr c5
  subst c5
  have H1 : (if t188 = true then (some 1) else (if a0 < a1 then (some (-1)) else (if a0 > a1 then (some 1) else (some 0)))) = some r := by rw [if_neg (show ¬ (false = true) by decide)] at H; exact H
  clear H
  have H := H1
  clear H1
  by_cases c7 : t188 = true
  ·subst c7
   have H1 : (some 1) = some r := by rw [if_pos rfl] at H; exact H
   clear H
   have H := H1
   clear H1
   obtain rfl := Option.some.inj H
   go_enter Tryd.func134, Tryd.ntmps134
   go_wp2_with (first | ((with_reducible refine gate_callee (f := 157) rfl ?_); refine goesS (some 8) Tryd.func157 #[.int .i64 a0] ?_; (with_reducible refine (cmp_isNaN_int64.calls a0 false _ A3.out).mono ?_); rintro e w' ⟨rfl, ⟨nd, rfl⟩⟩; refine ⟨_, rfl, ?_⟩) | ((with_reducible refine gate_callee (f := 157) rfl ?_); refine goesS (some 10) Tryd.func157 #[.int .i64 a1] ?_; (with_reducible refine (cmp_isNaN_int64.calls a1 true _ A4.out).mono ?_); rintro e w' ⟨rfl, ⟨nd, rfl⟩⟩; refine ⟨_, rfl, ?_⟩))
   go_ret
   exact ⟨eW, by repeat (first | exact Drawn0.refl _ | apply Drawn0.step)⟩
  ·replace c7 := Bool.eq_false_iff.mpr c7
   subst c7
   have H1 : (if a0 < a1 then (some (-1)) else (if a0 > a1 then (some 1) else (some 0))) = some r := by rw [if_neg (show ¬ (false = true) by decide)] at H; exact H
   clear H
   have H := H1
   clear H1
   by_cases c8 : a0 < a1
   ·rw [if_pos c8] at H
    have c8b0 : decide (a0 < a1) = true := decide_eq_true c8
    clear c8
    obtain rfl := Option.some.inj H
    go_enter Tryd.func134, Tryd.ntmps134
    go_wp2_with (first | ((with_reducible refine gate_callee (f := 157) rfl ?_); refine goesS (some 8) Tryd.func157 #[.int .i64 a0] ?_; (with_reducible refine (cmp_isNaN_int64.calls a0 false _ A3.out).mono ?_); rintro e w' ⟨rfl, ⟨nd, rfl⟩⟩; refine ⟨_, rfl, ?_⟩) | ((with_reducible refine gate_callee (f := 157) rfl ?_); refine goesS (some 10) Tryd.func157 #[.int .i64 a1] ?_; (with_reducible refine (cmp_isNaN_int64.calls a1 false _ A4.out).mono ?_); rintro e w' ⟨rfl, ⟨nd, rfl⟩⟩; refine ⟨_, rfl, ?_⟩))
    go_ret
    exact ⟨eW, by repeat (first | exact Drawn0.refl _ | apply Drawn0.step)⟩
   ·rw [if_neg c8] at H
    have c8b0 : decide (a0 < a1) = false := decide_eq_false c8
    clear c8
    by_cases c9 : a0 > a1
    ·rw [if_pos c9] at H
     have c9b0 : decide (a1 < a0) = true := decide_eq_true c9
     clear c9
     obtain rfl := Option.some.inj H
     go_enter Tryd.func134, Tryd.ntmps134
     go_wp2_with (first | ((with_reducible refine gate_callee (f := 157) rfl ?_); refine goesS (some 8) Tryd.func157 #[.int .i64 a0] ?_; (with_reducible refine (cmp_isNaN_int64.calls a0 false _ A3.out).mono ?_); rintro e w' ⟨rfl, ⟨nd, rfl⟩⟩; refine ⟨_, rfl, ?_⟩) | ((with_reducible refine gate_callee (f := 157) rfl ?_); refine goesS (some 10) Tryd.func157 #[.int .i64 a1] ?_; (with_reducible refine (cmp_isNaN_int64.calls a1 false _ A4.out).mono ?_); rintro e w' ⟨rfl, ⟨nd, rfl⟩⟩; refine ⟨_, rfl, ?_⟩))
     go_ret
     exact ⟨eW, by repeat (first | exact Drawn0.refl _ | apply Drawn0.step)⟩
    ·rw [if_neg c9] at H
     have c9b0 : decide (a1 < a0) = false := decide_eq_false c9
     clear c9
     obtain rfl := Option.some.inj H
     go_enter Tryd.func134, Tryd.ntmps134
     go_wp2_with (first | ((with_reducible refine gate_callee (f := 157) rfl ?_); refine goesS (some 8) Tryd.func157 #[.int .i64 a0] ?_; (with_reducible refine (cmp_isNaN_int64.calls a0 false _ A3.out).mono ?_); rintro e w' ⟨rfl, ⟨nd, rfl⟩⟩; refine ⟨_, rfl, ?_⟩) | ((with_reducible refine gate_callee (f := 157) rfl ?_); refine goesS (some 10) Tryd.func157 #[.int .i64 a1] ?_; (with_reducible refine (cmp_isNaN_int64.calls a1 false _ A4.out).mono ?_); rintro e w' ⟨rfl, ⟨nd, rfl⟩⟩; refine ⟨_, rfl, ?_⟩))
     go_ret
     exact ⟨eW, by repeat (first | exact Drawn0.refl _ | apply Drawn0.step)⟩

/-! ### slices_Compare_int64_int64: function 84 -/
def slices_Compare_int64_int64.l0 : Nat → List Int → List Int → List Int → Int → Int → Option (Int)
 | 0, _, _, _, _, _ => none
 | k + 1, x0, x1, x9, x10, x11 => if x11 < x10 then (if 0 ≤ x11 then (if x11 < (x9.length : Int) then (if x11 ≥ (x1.length : Int) then (some 1) else (if x11 < (x1.length : Int) then ((cmp_Compare_int64.f (rd x9 x11) (rd x1 x11)).bind fun t191 => (if t191 = 0 then (slices_Compare_int64_int64.l0 k x0 x1 x9 x10 (wrap64 (x11 + 1))) else (some t191))) else (none))) else (none)) else (none)) else (if (x0.length : Int) < (x1.length : Int) then (some (-1)) else (some 0))
def slices_Compare_int64_int64.f (k : Nat) (l0 : List Int) (l1 : List Int) : Option (Int) := slices_Compare_int64_int64.l0 k l0 l1 l0 (l0.length : Int) 0
theorem slices_Compare_int64_int64.mono_l : ∀ k, (∀ y0 y1 y2 y3 y4, LeO (slices_Compare_int64_int64.l0 k y0 y1 y2 y3 y4) (slices_Compare_int64_int64.l0 (k + 1) y0 y1 y2 y3 y4))
 | 0 => fun _ _ _ _ _ r h => by simp [slices_Compare_int64_int64.l0] at h
 | k + 1 => by
  have ih0 := slices_Compare_int64_int64.mono_l k
  ·intro y0 y1 y2 y3 y4
   unfold slices_Compare_int64_int64.l0
   repeat' first
   | (with_reducible exact ih0 _ _ _ _ _)
   | (with_reducible exact LeO.refl _)
   | (with_reducible exact LeO.none _)
   | (with_reducible refine LeO.ite ?_ ?_)
   | (with_reducible refine LeO.bind ?_ (fun _ => ?_))
   | exact ih0 _ _ _ _ _
   | exact LeO.none _
   | refine LeO.ite ?_ ?_
   | refine LeO.bind ?_ (fun _ => ?_)
theorem slices_Compare_int64_int64.mono : ∀ a0 a1 k, LeO (slices_Compare_int64_int64.f k a0 a1) (slices_Compare_int64_int64.f (k + 1) a0 a1) := by
 intro a0 a1 k
 have ih0 := slices_Compare_int64_int64.mono_l k
 unfold slices_Compare_int64_int64.f
 repeat' first
   | (with_reducible exact ih0 _ _ _ _ _)
   | (with_reducible exact LeO.refl _)
   | (with_reducible exact LeO.none _)
   | (with_reducible refine LeO.ite ?_ ?_)
   | (with_reducible refine LeO.bind ?_ (fun _ => ?_))
   | exact ih0 _ _ _ _ _
   | exact LeO.none _
   | refine LeO.ite ?_ ?_
   | refine LeO.bind ?_ (fun _ => ?_)
set_option maxHeartbeats 8000000 in
set_option maxRecDepth 100000 in
theorem slices_Compare_int64_int64.calls (k : Nat) (A0 : Option Addr) (c0 : Nat) (l0 : List Int) (A1 : Option Addr) (c1 : Nat) (l1 : List Int) (r : Int) (w : World) (hr0 : Kd.C (Kd.int .i64) w A0 l0.length l0) (hc0 : l0.length ≤ c0) (hr1 : Kd.C (Kd.int .i64) w A1 l1.length l1) (hc1 : l1.length ≤ c1) (h : slices_Compare_int64_int64.f k l0 l1 = some r) :
  Calls Tryd.prog 84 #[.slice A0 l0.length c0, .slice A1 l1.length c1] w fun e w' => e = .returned (.int .i64 r) ∧ Drawn0 w w' := by
 have HR0 := Aside0.mk hr0
 have HC0 := Aside0.mk hc0
 clear hr0 hc0
 have HR1 := Aside0.mk hr1
 have HC1 := Aside0.mk hc1
 clear hr1 hc1
 have H : (slices_Compare_int64_int64.l0 k l0 l1 l0 (l0.length : Int) 0) = some r := h
 clear h
 have H' := Aside0.mk H
 clear H
 go_enter Tryd.func84, Tryd.ntmps84
 go_wp2
 go_loopg [11] k (fun kq v11 w' => ∃ (x11_1 : Int), v11 = .int .i64 x11_1 ∧ Aside0 (slices_Compare_int64_int64.l0 kq l0 l1 l0 (l0.length : Int) x11_1 = some r) ∧ Aside0 (kq ≤ k) ∧ Drawn0 w w')
 case atStart => exact ⟨(0), (eW), H', ⟨Nat.le_refl _⟩, by repeat (first | exact Drawn0.refl _ | apply Drawn0.step)⟩
 case round =>
  clear H'
  try clear c1
  try clear p2
  obtain ⟨x11_1, rfl, HA, HK1, ⟨m1, rfl⟩⟩ := hrel
  cases gk with
  | zero => exact absurd HA.out (by simp [slices_Compare_int64_int64.l0])
  | succ k1 =>
   have H := HA.out
   clear HA
   simp only [slices_Compare_int64_int64.l0] at H
   by_cases c3 : x11_1 < (l0.length : Int)
   ·rw [if_pos c3] at H
    have c3b0 : decide (x11_1 < (l0.length : Int)) = true := decide_eq_true c3
    clear c3
    by_cases c4 : 0 ≤ x11_1
    ·rw [if_pos c4] at H
     have c4b0 : decide (0 ≤ x11_1) = true := decide_eq_true c4
     clear c4
     by_cases c5 : x11_1 < (l0.length : Int)
     ·rw [if_pos c5] at H
      have c5b0 : decide (x11_1 < (l0.length : Int)) = true := decide_eq_true c5
      clear c5
      by_cases c6 : x11_1 ≥ (l1.length : Int)
      ·rw [if_pos c6] at H
       have c6b0 : decide ((l1.length : Int) ≤ x11_1) = true := decide_eq_true c6
       clear c6
       obtain rfl := Option.some.inj H
       have p189 : 0 ≤ (x11_1 : Int) := ofD
       have q189 : x11_1 < (l0.length : Int) := ofD
       obtain ⟨ad189, e189, hx189_0⟩ := Kd.at_int HR0.out x11_1 p189 q189
       cases e189
       replace p189 := eq_true p189
       replace q189 := eq_true q189
       go_wp2
       go_ret
       exact ⟨eW, by repeat (first | exact Drawn0.refl _ | apply Drawn0.step)⟩
      ·rw [if_neg c6] at H
       have c6b0 : decide ((l1.length : Int) ≤ x11_1) = false := decide_eq_false c6
       clear c6
       by_cases c7 : x11_1 < (l1.length : Int)
       ·rw [if_pos c7] at H
        have c7b0 : decide (x11_1 < (l1.length : Int)) = true := decide_eq_true c7
        clear c7
        replace H := Option.bind_eq_some_iff.mp H
        obtain ⟨t191, A80, H⟩ := H
        replace H : (if t191 = 0 then (slices_Compare_int64_int64.l0 k1 l0 l1 l0 (l0.length : Int) (wrap64 (x11_1 + 1))) else (some t191)) = some r := H
        have A8 := Aside0.mk A80
        clear A80
        by_cases c9 : t191 = 0
        ·rw [if_pos c9] at H
         have c9b0 : (t191 == 0) = true := beq_iff_eq.mpr c9
         have c9b1 : (t191 != 0) = false := bne_eq_false_iff_eq.mpr c9
         clear c9
         have H' := Aside0.mk H
         clear H
         have p189 : 0 ≤ (x11_1 : Int) := ofD
         have q189 : x11_1 < (l0.length : Int) := ofD
         obtain ⟨ad189, e189, hx189_0⟩ := Kd.at_int HR0.out x11_1 p189 q189
         cases e189
         replace p189 := eq_true p189
         replace q189 := eq_true q189
         have p190 : 0 ≤ (x11_1 : Int) := ofD
         have q190 : x11_1 < (l1.length : Int) := ofD
         obtain ⟨ad190, e190, hx190_0⟩ := Kd.at_int HR1.out x11_1 p190 q190
         cases e190
         replace p190 := eq_true p190
         replace q190 := eq_true q190
         go_wp2_with (first | ((with_reducible refine gate_callee (f := 134) rfl ?_); refine goesS (some 26) Tryd.func134 #[.int .i64 (rd l0 x11_1), .int .i64 (rd l1 x11_1)] ?_; (with_reducible refine (cmp_Compare_int64.calls (rd l0 x11_1) (rd l1 x11_1) t191 _ A8.out).mono ?_); rintro e w' ⟨rfl, ⟨nd, rfl⟩⟩; refine ⟨_, rfl, ?_⟩))
         go_roundg k1
         case measure => have := HK1.out; omega
         case rel => exact ⟨(wrap64 (x11_1 + 1)), (eW), H', ⟨by have := HK1.out; omega⟩, by repeat (first | exact Drawn0.refl _ | apply Drawn0.step)⟩
        ·rw [if_neg c9] at H
         have c9b0 : (t191 == 0) = false := beq_eq_false_iff_ne.mpr c9
         have c9b1 : (t191 != 0) = true := bne_iff_ne.mpr c9
         obtain rfl := Option.some.inj H
         have p189 : 0 ≤ (x11_1 : Int) := ofD
         have q189 : x11_1 < (l0.length : Int) := ofD
         obtain ⟨ad189, e189, hx189_0⟩ := Kd.at_int HR0.out x11_1 p189 q189
         cases e189
         replace p189 := eq_true p189
         replace q189 := eq_true q189
         have p190 : 0 ≤ (x11_1 : Int) := ofD
         have q190 : x11_1 < (l1.length : Int) := ofD
         obtain ⟨ad190, e190, hx190_0⟩ := Kd.at_int HR1.out x11_1 p190 q190
         cases e190
         replace p190 := eq_true p190
         replace q190 := eq_true q190
         go_wp2_with (first | ((with_reducible refine gate_callee (f := 134) rfl ?_); refine goesS (some 26) Tryd.func134 #[.int .i64 (rd l0 x11_1), .int .i64 (rd l1 x11_1)] ?_; (with_reducible refine (cmp_Compare_int64.calls (rd l0 x11_1) (rd l1 x11_1) t191 _ A8.out).mono ?_); rintro e w' ⟨rfl, ⟨nd, rfl⟩⟩; refine ⟨_, rfl, ?_⟩))
         go_ret
         exact ⟨eW, by repeat (first | exact Drawn0.refl _ | apply Drawn0.step)⟩
       ·rw [if_neg c7] at H
        exact absurd H (by simp)
     ·rw [if_neg c5] at H
      exact absurd H (by simp)
    ·rw [if_neg c4] at H
     exact absurd H (by simp)
   ·rw [if_neg c3] at H
    have c3b0 : decide (x11_1 < (l0.length : Int)) = false := decide_eq_false c3
    clear c3
    by_cases c10 : (l0.length : Int) < (l1.length : Int)
    ·rw [if_pos c10] at H
     have c10b0 : decide ((l0.length : Int) < (l1.length : Int)) = true := decide_eq_true c10
     have c10b1 : decide (l0.length < l1.length) = true := decide_eq_true (Int.ofNat_lt.mp c10)
     clear c10
     obtain rfl := Option.some.inj H
     go_wp2
     go_ret
     exact ⟨eW, by repeat (first | exact Drawn0.refl _ | apply Drawn0.step)⟩
    ·rw [if_neg c10] at H
     have c10b0 : decide ((l0.length : Int) < (l1.length : Int)) = false := decide_eq_false c10
     have c10b1 : decide (l0.length < l1.length) = false := decide_eq_false (fun h => c10 (Int.ofNat_lt.mpr h))
     clear c10
     obtain rfl := Option.some.inj H
     go_wp2
     go_ret
     exact ⟨eW, by repeat (first | exact Drawn0.refl _ | apply Drawn0.step)⟩

/-! ### impl_compareWords: function 60 -/
def impl_compareWords.f (k : Nat) (l0 : List Int) (l1 : List Int) : Option (Int) := if (l0.length : Int) = (l1.length : Int) then ((slices_Compare_int64_int64.f k l0 l1).bind fun t192 => (some t192)) else (some (wrap64 ((l0.length : Int) - (l1.length : Int))))
theorem impl_compareWords.mono : ∀ a0 a1 k, LeO (impl_compareWords.f k a0 a1) (impl_compareWords.f (k + 1) a0 a1) := by
 intro a0 a1 k
 unfold impl_compareWords.f
 repeat' first
   | (with_reducible exact slices_Compare_int64_int64.mono _ _ _)
   | (with_reducible exact LeO.refl _)
   | (with_reducible exact LeO.none _)
   | (with_reducible refine LeO.ite ?_ ?_)
   | (with_reducible refine LeO.bind ?_ (fun _ => ?_))
   | exact slices_Compare_int64_int64.mono _ _ _
   | exact LeO.none _
   | refine LeO.ite ?_ ?_
   | refine LeO.bind ?_ (fun _ => ?_)
set_option maxHeartbeats 8000000 in
set_option maxRecDepth 100000 in
theorem impl_compareWords.calls (k : Nat) (A0 : Option Addr) (c0 : Nat) (l0 : List Int) (A1 : Option Addr) (c1 : Nat) (l1 : List Int) (r : Int) (w : World) (hr0 : Kd.C (Kd.int .i64) w A0 l0.length l0) (hc0 : l0.length ≤ c0) (hr1 : Kd.C (Kd.int .i64) w A1 l1.length l1) (hc1 : l1.length ≤ c1) (h : impl_compareWords.f k l0 l1 = some r) :
  Calls Tryd.prog 60 #[.slice A0 l0.length c0, .slice A1 l1.length c1] w fun e w' => e = .returned (.int .i64 r) ∧ Drawn0 w w' := by
 have HR0 := Aside0.mk hr0
 have HC0 := Aside0.mk hc0
 clear hr0 hc0
 have HR1 := Aside0.mk hr1
 have HC1 := Aside0.mk hc1
 clear hr1 hc1
 have H : (if (l0.length : Int) = (l1.length : Int) then ((slices_Compare_int64_int64.f k l0 l1).bind fun t192 => (some t192)) else (some (wrap64 ((l0.length : Int) - (l1.length : Int))))) = some r := h
 clear h
 by_cases c3 : (l0.length : Int) = (l1.length : Int)
 ·rw [if_pos c3] at H
  have c3b0 : ((l0.length : Int) == (l1.length : Int)) = true := beq_iff_eq.mpr c3
  have c3b1 : ((l0.length : Int) != (l1.length : Int)) = false := bne_eq_false_iff_eq.mpr c3
  have c3b2 : (l0.length == l1.length) = true := by first | simpa using c3 | (simp at c3 ⊢; omega)
  clear c3
  replace H := Option.bind_eq_some_iff.mp H
  obtain ⟨t192, A40, H⟩ := H
  replace H : (some t192) = some r := H
  have A4 := Aside0.mk A40
  clear A40
  obtain rfl := Option.some.inj H
  go_enter Tryd.func60, Tryd.ntmps60
  go_wp2_with (first | ((with_reducible refine gate_callee (f := 84) rfl ?_); refine goesS (some 17) Tryd.func84 #[.slice A0 l0.length c0, .slice A1 l1.length c1] ?_; (with_reducible refine (slices_Compare_int64_int64.calls k _ _ l0 _ _ l1 t192 _ ?side1 ?side2 ?side3 ?side4 A4.out).mono ?_); (case side1 => exact cP HR0.out); (case side2 => exact HC0.out); (case side3 => exact cP HR1.out); (case side4 => exact HC1.out); rintro e w' ⟨rfl, ⟨nd, rfl⟩⟩; refine ⟨_, rfl, ?_⟩))
  go_ret
  exact ⟨eW, by repeat (first | exact Drawn0.refl _ | apply Drawn0.step)⟩
 ·rw [if_neg c3] at H
  have c3b0 : ((l0.length : Int) == (l1.length : Int)) = false := beq_eq_false_iff_ne.mpr c3
  have c3b1 : ((l0.length : Int) != (l1.length : Int)) = true := bne_iff_ne.mpr c3
  have c3b2 : (l0.length == l1.length) = false := by first | simpa using c3 | (simp at c3 ⊢; omega)
  obtain rfl := Option.some.inj H
  go_enter Tryd.func60, Tryd.ntmps60
  go_wp2
  go_ret
  exact ⟨eW, by repeat (first | exact Drawn0.refl _ | apply Drawn0.step)⟩

end Go.Proofs.YthbaocejgjpfoaaDoor.P
end M0
section M1
namespace Go.Proofs.YthbaocejgjpfoaaDoor.P
open Go.RowKit Go.Proofs.YthbaocejgjpfoaaDoor.Sh Go.Proofs.YthbaocejgjpfoaaDoorW.PrintWords Go.Proofs.YthbaocejgjpfoaaDoorW.PrintLast Go.Proofs.YthbaocejgjpfoaaDoorW.PrintMore
attribute [local go_sem] max2_int min2_int max_two min_two max_three min_three max_four min_four   -- for this text's walks alone
set_option linter.unusedVariables false
set_option linter.unusedSimpArgs false

/-! ### impl_IsFinite: function 17 -/
mutual
def impl_IsFinite.j0 : Nat → List (List Int) → Bool → Int → List Int → Option (Bool)
 | 0, _, _, _, _ => none
 | k + 1, x1, x14, x194000, x194001 => if x14 = true then (some false) else (impl_IsFinite.l0 k x1 x1 (x1.length : Int) 0 x194000 x194001)
def impl_IsFinite.l0 : Nat → List (List Int) → List (List Int) → Int → Int → Int → List Int → Option (Bool)
 | 0, _, _, _, _, _, _ => none
 | k + 1, x1, x15, x16, x17, x194000, x194001 => if x17 < x16 then (if 0 ≤ x17 then (if x17 < (x15.length : Int) then ((impl_isWord.f x194000 x194001 (rd_L1 x15 x17)).bind fun t196 => (if t196 = true then (if x17 > 0 then (if 0 ≤ (wrap64 (x17 - 1)) then (if (wrap64 (x17 - 1)) < (x1.length : Int) then ((impl_compareWords.f k (rd_L1 x1 (wrap64 (x17 - 1))) (rd_L1 x15 x17)).bind fun t198 => (if t198 ≥ 0 then (some false) else (impl_IsFinite.l0 k x1 x15 x16 (wrap64 (x17 + 1)) x194000 x194001))) else (none)) else (none)) else (impl_IsFinite.l0 k x1 x15 x16 (wrap64 (x17 + 1)) x194000 x194001)) else (some false))) else (none)) else (none)) else (some true)
end
def impl_IsFinite.f (k : Nat) (a0_0 : Int) (l0_1 : List Int) (l1 : List (List Int)) : Option (Bool) := (impl_IsAlphabet.f k a0_0 l0_1).bind fun t194 => (if t194 = true then (impl_IsFinite.j0 k l1 (decide ((l1.length : Int) > 40)) a0_0 l0_1) else (impl_IsFinite.j0 k l1 true a0_0 l0_1))
theorem impl_IsFinite.mono_l : ∀ k, (∀ y0 y1 y2 y3, LeO (impl_IsFinite.j0 k y0 y1 y2 y3) (impl_IsFinite.j0 (k + 1) y0 y1 y2 y3)) ∧ (∀ y0 y1 y2 y3 y4 y5, LeO (impl_IsFinite.l0 k y0 y1 y2 y3 y4 y5) (impl_IsFinite.l0 (k + 1) y0 y1 y2 y3 y4 y5))
 | 0 => ⟨fun _ _ _ _ r h => by simp [impl_IsFinite.j0] at h, fun _ _ _ _ _ _ r h => by simp [impl_IsFinite.l0] at h⟩
 | k + 1 => by
  obtain ⟨ih0, ih1⟩ := impl_IsFinite.mono_l k
  refine ⟨?_, ?_⟩
  ·intro y0 y1 y2 y3
   unfold impl_IsFinite.j0
   repeat' first
   | (with_reducible exact ih0 _ _ _ _)
   | (with_reducible exact ih1 _ _ _ _ _ _)
   | (with_reducible exact impl_IsAlphabet.mono _ _ _)
   | (with_reducible exact impl_compareWords.mono _ _ _)
   | (with_reducible exact LeO.refl _)
   | (with_reducible exact LeO.none _)
   | (with_reducible refine LeO.ite ?_ ?_)
   | (with_reducible refine LeO.bind ?_ (fun _ => ?_))
   | exact ih0 _ _ _ _
   | exact ih1 _ _ _ _ _ _
   | exact impl_IsAlphabet.mono _ _ _
   | exact impl_compareWords.mono _ _ _
   | exact LeO.none _
   | refine LeO.ite ?_ ?_
   | refine LeO.bind ?_ (fun _ => ?_)
  ·intro y0 y1 y2 y3 y4 y5
   unfold impl_IsFinite.l0
   repeat' first
   | (with_reducible exact ih0 _ _ _ _)
   | (with_reducible exact ih1 _ _ _ _ _ _)
   | (with_reducible exact impl_IsAlphabet.mono _ _ _)
   | (with_reducible exact impl_compareWords.mono _ _ _)
   | (with_reducible exact LeO.refl _)
   | (with_reducible exact LeO.none _)
   | (with_reducible refine LeO.ite ?_ ?_)
   | (with_reducible refine LeO.bind ?_ (fun _ => ?_))
   | exact ih0 _ _ _ _
   | exact ih1 _ _ _ _ _ _
   | exact impl_IsAlphabet.mono _ _ _
   | exact impl_compareWords.mono _ _ _
   | exact LeO.none _
   | refine LeO.ite ?_ ?_
   | refine LeO.bind ?_ (fun _ => ?_)
theorem impl_IsFinite.mono : ∀ a0 a1 a2 k, LeO (impl_IsFinite.f k a0 a1 a2) (impl_IsFinite.f (k + 1) a0 a1 a2) := by
 intro a0 a1 a2 k
 obtain ⟨ih0, ih1⟩ := impl_IsFinite.mono_l k
 unfold impl_IsFinite.f
 repeat' first
   | (with_reducible exact ih0 _ _ _ _)
   | (with_reducible exact ih1 _ _ _ _ _ _)
   | (with_reducible exact impl_IsAlphabet.mono _ _ _)
   | (with_reducible exact impl_compareWords.mono _ _ _)
   | (with_reducible exact LeO.refl _)
   | (with_reducible exact LeO.none _)
   | (with_reducible refine LeO.ite ?_ ?_)
   | (with_reducible refine LeO.bind ?_ (fun _ => ?_))
   | exact ih0 _ _ _ _
   | exact ih1 _ _ _ _ _ _
   | exact impl_IsAlphabet.mono _ _ _
   | exact impl_compareWords.mono _ _ _
   | exact LeO.none _
   | refine LeO.ite ?_ ?_
   | refine LeO.bind ?_ (fun _ => ?_)
set_option maxHeartbeats 8000000 in
set_option maxRecDepth 100000 in
theorem impl_IsFinite.calls (k : Nat) (a0_0 : Int) (A0_1 : Option Addr) (c0_1 : Nat) (l0_1 : List Int) (A1 : Option Addr) (c1 : Nat) (l1 : List (List Int)) (r : Bool) (w : World) (hr0_1 : Kd.C (Kd.int .i64) w A0_1 l0_1.length l0_1) (hc0_1 : l0_1.length ≤ c0_1) (hr1 : Kd.C (Kd.slice 2 (Kd.int .i64)) w A1 l1.length l1) (hc1 : l1.length ≤ c1) (h : impl_IsFinite.f k a0_0 l0_1 l1 = some r) (hTab : Tab w) :
  Calls Tryd.prog 17 #[.agg #[.int .i64 a0_0, .slice A0_1 l0_1.length c0_1], .slice A1 l1.length c1] w fun e w' => e = .returned (.bool r) ∧ Below w.heap.size w w' := by
 have HTab := Aside0.mk hTab
 clear hTab
 have hu29 := Tryd.underlying29
 have HR0_1 := Aside0.mk hr0_1
 have HC0_1 := Aside0.mk hc0_1
 clear hr0_1 hc0_1
 have HR1 := Aside0.mk hr1
 have HC1 := Aside0.mk hc1
 clear hr1 hc1
 have HB := Aside0.mk (Below.refl w.heap.size w)
 have H : ((impl_IsAlphabet.f k a0_0 l0_1).bind fun t194 => (if t194 = true then (impl_IsFinite.j0 k l1 (decide ((l1.length : Int) > 40)) a0_0 l0_1) else (impl_IsFinite.j0 k l1 true a0_0 l0_1))) = some r := h
 clear h
 have HC3 := Aside0.mk H
 clear H
 go_enter Tryd.func17, Tryd.ntmps17
 go_upto_region 1 with (first | ((with_reducible refine gate_dst (N := 2) rfl ?_); (try (refine gate_guard (by rfl) ?_; dsimp only)); refine boxS (N := 2) (cs := #[.int .i64 a0_0, .slice A0_1 l0_1.length c0_1]) (t := 29) ?_; intro gb193 hg w4 hbox hb; have n0_ := Aside0.mk (below_step (bW) hb); have n1_ := Aside0.mk (hbox); have n2_ := geW (w := w) hg; have n3_ := geW (w := w) hg; clear HB; have HB := n0_; have BK193 := n1_; have GW193 := n2_; have GE193 := n3_; clear n0_ n1_ n2_ n3_; clear hb hbox hg))
 (try simp only [Act.put, List.setIfInBounds_toArray, List.set_cons_zero, List.set_cons_succ])
 go_cut [14] (fun v14 wc => ∃ (kq : Nat) (x14_2 : Bool), v14 = .bool x14_2 ∧ Aside0 (impl_IsFinite.j0 kq l1 x14_2 a0_0 l0_1 = some r) ∧ Aside0 (kq ≤ k) ∧ Aside0 (wc.heap[gb193]? = some (.cells #[.int .i64 a0_0, (.slice A0_1 l0_1.length c0_1)] 29 (0, 0))) ∧ Aside0 (Below w.heap.size w wc))
 case first =>
  have H := HC3.out
  clear HC3
  replace H := Option.bind_eq_some_iff.mp H
  obtain ⟨t194, A50, H⟩ := H
  replace H : (if t194 = true then (impl_IsFinite.j0 k l1 (decide ((l1.length : Int) > 40)) a0_0 l0_1) else (impl_IsFinite.j0 k l1 true a0_0 l0_1)) = some r := H
  have A5 := Aside0.mk A50
  clear A50
  by_cases c6 : t194 = true
  ·subst c6
   have H1 : (impl_IsFinite.j0 k l1 (decide ((l1.length : Int) > 40)) a0_0 l0_1) = some r := by rw [if_pos rfl] at H; exact H
   clear H
   have H := H1
   clear H1
   have H' := Aside0.mk H
   clear H
   have hcz7_0 : w4.cell? ⟨gb193, 0, none⟩ = some (.int .i64 a0_0) := (blk_cell BK193.out 0).trans rfl
   have hcz7_1 : w4.cell? ⟨gb193, 1, none⟩ = some (.slice A0_1 l0_1.length c0_1) := (blk_cell BK193.out 1).trans rfl
   have hfz7_0 := blk_frozen BK193.out 0
   have hfz7_1 := blk_frozen BK193.out 1
   go_wp2_with (first | ((with_reducible refine gate_callee (f := 58) rfl ?_); refine goesS (some 8) Tryd.func58 #[.agg #[.int .i64 a0_0, .slice A0_1 l0_1.length c0_1]] ?_; (with_reducible refine (impl_IsAlphabet.calls k a0_0 _ _ l0_1 true _ ?side1 ?side2 A5.out (tabW HTab.out)).mono ?_); (case side1 => exact cP (Kd.C_below HR0_1.out HB.out)); (case side2 => exact HC0_1.out); rintro e w8 ⟨rfl, hb⟩; refine ⟨_, rfl, ?_⟩; have n0_ := Aside0.mk (blkB BK193.out hb); have n1_ := Aside0.mk (below_step (bW) hb); clear BK193; clear HB; have BK193 := n0_; have HB := n1_; clear n0_ n1_; (try clear hb); (try clear hb2); (try clear hk); (try clear hi)))
   go_meet
   case rel => exact ⟨_, (decide ((l1.length : Int) > 40)), (eW), H', ⟨by first | omega | exact Nat.le_refl _⟩, ⟨(bP BK193.out)⟩, ⟨bW⟩⟩
  ·replace c6 := Bool.eq_false_iff.mpr c6
   subst c6
   have H1 : (impl_IsFinite.j0 k l1 true a0_0 l0_1) = some r := by rw [if_neg (show ¬ (false = true) by decide)] at H; exact H
   clear H
   have H := H1
   clear H1
   have H' := Aside0.mk H
   clear H
   have hcz9_0 : w4.cell? ⟨gb193, 0, none⟩ = some (.int .i64 a0_0) := (blk_cell BK193.out 0).trans rfl
   have hcz9_1 : w4.cell? ⟨gb193, 1, none⟩ = some (.slice A0_1 l0_1.length c0_1) := (blk_cell BK193.out 1).trans rfl
   have hfz9_0 := blk_frozen BK193.out 0
   have hfz9_1 := blk_frozen BK193.out 1
   go_wp2_with (first | ((with_reducible refine gate_callee (f := 58) rfl ?_); refine goesS (some 8) Tryd.func58 #[.agg #[.int .i64 a0_0, .slice A0_1 l0_1.length c0_1]] ?_; (with_reducible refine (impl_IsAlphabet.calls k a0_0 _ _ l0_1 false _ ?side1 ?side2 A5.out (tabW HTab.out)).mono ?_); (case side1 => exact cP (Kd.C_below HR0_1.out HB.out)); (case side2 => exact HC0_1.out); rintro e w10 ⟨rfl, hb⟩; refine ⟨_, rfl, ?_⟩; have n0_ := Aside0.mk (blkB BK193.out hb); have n1_ := Aside0.mk (below_step (bW) hb); clear BK193; clear HB; have BK193 := n0_; have HB := n1_; clear n0_ n1_; (try clear hb); (try clear hb2); (try clear hk); (try clear hi)))
   go_meet
   case rel => exact ⟨_, (true), (eW), H', ⟨by first | omega | exact Nat.le_refl _⟩, ⟨(bP BK193.out)⟩, ⟨bW⟩⟩
 case rest =>
  clear HC3
  try clear c1
  try clear p2
  try clear c5
  try clear c6
  try clear hcz7_0
  try clear hcz7_1
  try clear hcz9_0
  try clear hcz9_1
  try clear hfz7_0
  try clear hfz7_1
  try clear hfz9_0
  try clear hfz9_1
  obtain ⟨kq, x14_2, rfl, HA, HJ2, BK193, HB⟩ := hcut
  cases kq with
  | zero => exact absurd HA.out (by simp [impl_IsFinite.j0])
  | succ kj2 =>
   have H := HA.out
   clear HA
   simp only [impl_IsFinite.j0] at H
   by_cases c11 : x14_2 = true
   ·subst c11
    have H1 : (some false) = some r := by rw [if_pos rfl] at H; exact H
    clear H
    have H := H1
    clear H1
    obtain rfl := Option.some.inj H
    go_wp2
    go_ret
    exact ⟨eW, bW⟩
   ·replace c11 := Bool.eq_false_iff.mpr c11
    subst c11
    have H1 : (impl_IsFinite.l0 kj2 l1 l1 (l1.length : Int) 0 a0_0 l0_1) = some r := by rw [if_neg (show ¬ (false = true) by decide)] at H; exact H
    clear H
    have H := H1
    clear H1
    have H' := Aside0.mk H
    clear H
    go_wp2
    go_loopg [17] kj2 (fun kq v17 w' => ∃ (x17_2 : Int), v17 = .int .i64 x17_2 ∧ Aside0 (impl_IsFinite.l0 kq l1 l1 (l1.length : Int) x17_2 a0_0 l0_1 = some r) ∧ Aside0 (kq ≤ kj2) ∧ Aside0 (w'.heap[gb193]? = some (.cells #[.int .i64 a0_0, (.slice A0_1 l0_1.length c0_1)] 29 (0, 0))) ∧ Aside0 (Below w.heap.size w w'))
    case atStart => exact ⟨(0), (eW), H', ⟨Nat.le_refl _⟩, ⟨(bP BK193.out)⟩, ⟨bW⟩⟩
    case round =>
     clear H'
     try clear c1
     try clear p2
     try clear c5
     try clear c6
     try clear c11
     try clear hcz7_0
     try clear hcz7_1
     try clear hcz9_0
     try clear hcz9_1
     try clear hfz7_0
     try clear hfz7_1
     try clear hfz9_0
     try clear hfz9_1
     try clear p2
     obtain ⟨x17_2, rfl, HA, HK2, BK193, HB⟩ := hrel
     cases gk with
     | zero => exact absurd HA.out (by simp [impl_IsFinite.l0])
     | succ k2 =>
      have H := HA.out
      clear HA
      simp only [impl_IsFinite.l0] at H
      by_cases c12 : x17_2 < (l1.length : Int)
      ·rw [if_pos c12] at H
       have c12b0 : decide (x17_2 < (l1.length : Int)) = true := decide_eq_true c12
       clear c12
       by_cases c13 : 0 ≤ x17_2
       ·rw [if_pos c13] at H
        have c13b0 : decide (0 ≤ x17_2) = true := decide_eq_true c13
        clear c13
        by_cases c14 : x17_2 < (l1.length : Int)
        ·rw [if_pos c14] at H
         have c14b0 : decide (x17_2 < (l1.length : Int)) = true := decide_eq_true c14
         clear c14
         replace H := Option.bind_eq_some_iff.mp H
         obtain ⟨t196, A150, H⟩ := H
         replace H : (if t196 = true then (if x17_2 > 0 then (if 0 ≤ (wrap64 (x17_2 - 1)) then (if (wrap64 (x17_2 - 1)) < (l1.length : Int) then ((impl_compareWords.f k2 (rd_L1 l1 (wrap64 (x17_2 - 1))) (rd_L1 l1 x17_2)).bind fun t198 => (if t198 ≥ 0 then (some false) else (impl_IsFinite.l0 k2 l1 l1 (l1.length : Int) (wrap64 (x17_2 + 1)) a0_0 l0_1))) else (none)) else (none)) else (impl_IsFinite.l0 k2 l1 l1 (l1.length : Int) (wrap64 (x17_2 + 1)) a0_0 l0_1)) else (some false)) = some r := H
         have A15 := Aside0.mk A150
         clear A150
         by_cases c16 : t196 = true
         ·subst c16
          have H1 : (if x17_2 > 0 then (if 0 ≤ (wrap64 (x17_2 - 1)) then (if (wrap64 (x17_2 - 1)) < (l1.length : Int) then ((impl_compareWords.f k2 (rd_L1 l1 (wrap64 (x17_2 - 1))) (rd_L1 l1 x17_2)).bind fun t198 => (if t198 ≥ 0 then (some false) else (impl_IsFinite.l0 k2 l1 l1 (l1.length : Int) (wrap64 (x17_2 + 1)) a0_0 l0_1))) else (none)) else (none)) else (impl_IsFinite.l0 k2 l1 l1 (l1.length : Int) (wrap64 (x17_2 + 1)) a0_0 l0_1)) = some r := by rw [if_pos rfl] at H; exact H
          clear H
          have H := H1
          clear H1
          by_cases c17 : x17_2 > 0
          ·rw [if_pos c17] at H
           have c17b0 : decide (0 < x17_2) = true := decide_eq_true c17
           clear c17
           obtain ⟨ji18, hji18⟩ : ∃ j_ : Int, (wrap64 (x17_2 - 1)) = j_ := ⟨_, rfl⟩
           replace H : (if 0 ≤ (ji18) then (if (ji18) < (l1.length : Int) then ((impl_compareWords.f k2 (rd_L1 l1 (ji18)) (rd_L1 l1 x17_2)).bind fun t198 => (if t198 ≥ 0 then (some false) else (impl_IsFinite.l0 k2 l1 l1 (l1.length : Int) (wrap64 (x17_2 + 1)) a0_0 l0_1))) else (none)) else (none)) = some r := by first | (rw [hji18] at H; exact H) | (simp only [hji18] at H ⊢; exact H)
           (try rw [hji18] at A15)
           have hji18w : (IntKind.i64.wrap (x17_2 - 1)) = ji18 := (i64_w _).trans hji18
           by_cases c19 : 0 ≤ (ji18)
           ·rw [if_pos c19] at H
            have c19b0 : decide (0 ≤ (ji18)) = true := decide_eq_true c19
            clear c19
            by_cases c20 : (ji18) < (l1.length : Int)
            ·rw [if_pos c20] at H
             have c20b0 : decide ((ji18) < (l1.length : Int)) = true := decide_eq_true c20
             clear c20
             replace H := Option.bind_eq_some_iff.mp H
             obtain ⟨t198, A210, H⟩ := H
             replace H : (if t198 ≥ 0 then (some false) else (impl_IsFinite.l0 k2 l1 l1 (l1.length : Int) (wrap64 (x17_2 + 1)) a0_0 l0_1)) = some r := H
             have A21 := Aside0.mk A210
             clear A210
             by_cases c22 : t198 ≥ 0
             ·rw [if_pos c22] at H
              have c22b0 : decide (0 ≤ t198) = true := decide_eq_true c22
              clear c22
              obtain rfl := Option.some.inj H
              have p195 : 0 ≤ (x17_2 : Int) := ofD
              have q195 : x17_2 < (l1.length : Int) := ofD
              obtain ⟨ad195, A195_0, c195_0, e195, hx195_0, hl195_0, hi195_0⟩ := at_L1 HR1.out x17_2 p195 q195
              cases e195
              replace hx195_0 := (HB.out.cell (World.block_lt_of_cell? w _ hx195_0)).trans hx195_0
              have HR195_0 := Aside0.mk hi195_0
              have HC195_0 := Aside0.mk hl195_0
              clear hi195_0 hl195_0
              replace p195 := eq_true p195
              replace q195 := eq_true q195
              have hcz23_0 : wr.cell? ⟨gb193, 0, none⟩ = some (.int .i64 a0_0) := (blk_cell BK193.out 0).trans rfl
              have hcz23_1 : wr.cell? ⟨gb193, 1, none⟩ = some (.slice A0_1 l0_1.length c0_1) := (blk_cell BK193.out 1).trans rfl
              have hfz23_0 := blk_frozen BK193.out 0
              have hfz23_1 := blk_frozen BK193.out 1
              go_wp2_with (first | ((with_reducible refine gate_callee (f := 59) rfl ?_); refine goesS (some 24) Tryd.func59 #[.agg #[.int .i64 a0_0, .slice A0_1 l0_1.length c0_1], .slice A195_0 (rd_L1 l1 x17_2).length c195_0] ?_; (with_reducible refine (impl_isWord.calls a0_0 _ _ l0_1 _ _ (rd_L1 l1 x17_2) true _ ?side1 ?side2 ?side3 ?side4 A15.out).mono ?_); (case side1 => exact cP (Kd.C_below HR0_1.out HB.out)); (case side2 => exact HC0_1.out); (case side3 => exact cP (Kd.C_below HR195_0.out HB.out)); (case side4 => exact HC195_0.out); rintro e w24 ⟨rfl, hb⟩; refine ⟨_, rfl, ?_⟩; have n0_ := Aside0.mk (blkB BK193.out hb); have n1_ := Aside0.mk (below_step (bW) hb); clear BK193; clear HB; have BK193 := n0_; have HB := n1_; clear n0_ n1_; (try clear hb); (try clear hb2); (try clear hk); (try clear hi); have p197 : 0 ≤ ((ji18) : Int) := ofD; have q197 : (ji18) < (l1.length : Int) := ofD; obtain ⟨ad197, A197_0, c197_0, e197, hx197_0, hl197_0, hi197_0⟩ := at_L1 HR1.out (ji18) p197 q197; obtain rfl : ad195 = ad197 := (by injection e197); replace hx197_0 := (HB.out.cell (World.block_lt_of_cell? w _ hx197_0)).trans hx197_0; have HR197_0 := Aside0.mk hi197_0; have HC197_0 := Aside0.mk hl197_0; clear hi197_0 hl197_0; replace p197 := eq_true p197; replace q197 := eq_true q197) | (go_at_call 60; (with_reducible refine (impl_compareWords.calls k2 _ _ (rd_L1 l1 (ji18)) _ _ (rd_L1 l1 x17_2) t198 _ ?side1 ?side2 ?side3 ?side4 A21.out).mono ?_); (case side1 => exact cP (Kd.C_below HR197_0.out HB.out)); (case side2 => exact HC197_0.out); (case side3 => exact cP (Kd.C_below HR195_0.out HB.out)); (case side4 => exact HC195_0.out); rintro e w' ⟨rfl, ⟨nd, rfl⟩⟩))
              go_ret
              exact ⟨by first | rfl | (simp [errW_none, errW_some] <;> rfl) | (simp only [← hji18]; first | rfl | (simp [errW_none, errW_some] <;> rfl)) | (simp [*, errW_none, errW_some] <;> rfl), bW⟩
             ·rw [if_neg c22] at H
              have c22b0 : decide (0 ≤ t198) = false := decide_eq_false c22
              clear c22
              have H' := Aside0.mk H
              clear H
              have p195 : 0 ≤ (x17_2 : Int) := ofD
              have q195 : x17_2 < (l1.length : Int) := ofD
              obtain ⟨ad195, A195_0, c195_0, e195, hx195_0, hl195_0, hi195_0⟩ := at_L1 HR1.out x17_2 p195 q195
              cases e195
              replace hx195_0 := (HB.out.cell (World.block_lt_of_cell? w _ hx195_0)).trans hx195_0
              have HR195_0 := Aside0.mk hi195_0
              have HC195_0 := Aside0.mk hl195_0
              clear hi195_0 hl195_0
              replace p195 := eq_true p195
              replace q195 := eq_true q195
              have hcz25_0 : wr.cell? ⟨gb193, 0, none⟩ = some (.int .i64 a0_0) := (blk_cell BK193.out 0).trans rfl
              have hcz25_1 : wr.cell? ⟨gb193, 1, none⟩ = some (.slice A0_1 l0_1.length c0_1) := (blk_cell BK193.out 1).trans rfl
              have hfz25_0 := blk_frozen BK193.out 0
              have hfz25_1 := blk_frozen BK193.out 1
              go_wp2_with (first | ((with_reducible refine gate_callee (f := 59) rfl ?_); refine goesS (some 24) Tryd.func59 #[.agg #[.int .i64 a0_0, .slice A0_1 l0_1.length c0_1], .slice A195_0 (rd_L1 l1 x17_2).length c195_0] ?_; (with_reducible refine (impl_isWord.calls a0_0 _ _ l0_1 _ _ (rd_L1 l1 x17_2) true _ ?side1 ?side2 ?side3 ?side4 A15.out).mono ?_); (case side1 => exact cP (Kd.C_below HR0_1.out HB.out)); (case side2 => exact HC0_1.out); (case side3 => exact cP (Kd.C_below HR195_0.out HB.out)); (case side4 => exact HC195_0.out); rintro e w26 ⟨rfl, hb⟩; refine ⟨_, rfl, ?_⟩; have n0_ := Aside0.mk (blkB BK193.out hb); have n1_ := Aside0.mk (below_step (bW) hb); clear BK193; clear HB; have BK193 := n0_; have HB := n1_; clear n0_ n1_; (try clear hb); (try clear hb2); (try clear hk); (try clear hi); have p197 : 0 ≤ ((ji18) : Int) := ofD; have q197 : (ji18) < (l1.length : Int) := ofD; obtain ⟨ad197, A197_0, c197_0, e197, hx197_0, hl197_0, hi197_0⟩ := at_L1 HR1.out (ji18) p197 q197; obtain rfl : ad195 = ad197 := (by injection e197); replace hx197_0 := (HB.out.cell (World.block_lt_of_cell? w _ hx197_0)).trans hx197_0; have HR197_0 := Aside0.mk hi197_0; have HC197_0 := Aside0.mk hl197_0; clear hi197_0 hl197_0; replace p197 := eq_true p197; replace q197 := eq_true q197) | (go_at_call 60; (with_reducible refine (impl_compareWords.calls k2 _ _ (rd_L1 l1 (ji18)) _ _ (rd_L1 l1 x17_2) t198 _ ?side1 ?side2 ?side3 ?side4 A21.out).mono ?_); (case side1 => exact cP (Kd.C_below HR197_0.out HB.out)); (case side2 => exact HC197_0.out); (case side3 => exact cP (Kd.C_below HR195_0.out HB.out)); (case side4 => exact HC195_0.out); rintro e w' ⟨rfl, ⟨nd, rfl⟩⟩))
              go_roundg k2
              case measure => have := HJ2.out; have := HK2.out; omega
              case rel => exact ⟨(wrap64 (x17_2 + 1)), (eW), H', ⟨by have := HJ2.out; have := HK2.out; omega⟩, ⟨(bP BK193.out)⟩, ⟨bW⟩⟩
            ·rw [if_neg c20] at H
             exact absurd H (by simp)
           ·rw [if_neg c19] at H
            exact absurd H (by simp)
          ·rw [if_neg c17] at H
           have c17b0 : decide (0 < x17_2) = false := decide_eq_false c17
           clear c17
           have H' := Aside0.mk H
           clear H
           have p195 : 0 ≤ (x17_2 : Int) := ofD
           have q195 : x17_2 < (l1.length : Int) := ofD
           obtain ⟨ad195, A195_0, c195_0, e195, hx195_0, hl195_0, hi195_0⟩ := at_L1 HR1.out x17_2 p195 q195
           cases e195
           replace hx195_0 := (HB.out.cell (World.block_lt_of_cell? w _ hx195_0)).trans hx195_0
           have HR195_0 := Aside0.mk hi195_0
           have HC195_0 := Aside0.mk hl195_0
           clear hi195_0 hl195_0
           replace p195 := eq_true p195
           replace q195 := eq_true q195
           have hcz27_0 : wr.cell? ⟨gb193, 0, none⟩ = some (.int .i64 a0_0) := (blk_cell BK193.out 0).trans rfl
           have hcz27_1 : wr.cell? ⟨gb193, 1, none⟩ = some (.slice A0_1 l0_1.length c0_1) := (blk_cell BK193.out 1).trans rfl
           have hfz27_0 := blk_frozen BK193.out 0
           have hfz27_1 := blk_frozen BK193.out 1
           go_wp2_with (first | ((with_reducible refine gate_callee (f := 59) rfl ?_); refine goesS (some 24) Tryd.func59 #[.agg #[.int .i64 a0_0, .slice A0_1 l0_1.length c0_1], .slice A195_0 (rd_L1 l1 x17_2).length c195_0] ?_; (with_reducible refine (impl_isWord.calls a0_0 _ _ l0_1 _ _ (rd_L1 l1 x17_2) true _ ?side1 ?side2 ?side3 ?side4 A15.out).mono ?_); (case side1 => exact cP (Kd.C_below HR0_1.out HB.out)); (case side2 => exact HC0_1.out); (case side3 => exact cP (Kd.C_below HR195_0.out HB.out)); (case side4 => exact HC195_0.out); rintro e w28 ⟨rfl, hb⟩; refine ⟨_, rfl, ?_⟩; have n0_ := Aside0.mk (blkB BK193.out hb); have n1_ := Aside0.mk (below_step (bW) hb); clear BK193; clear HB; have BK193 := n0_; have HB := n1_; clear n0_ n1_; (try clear hb); (try clear hb2); (try clear hk); (try clear hi)))
           go_roundg k2
           case measure => have := HJ2.out; have := HK2.out; omega
           case rel => exact ⟨(wrap64 (x17_2 + 1)), (eW), H', ⟨by have := HJ2.out; have := HK2.out; omega⟩, ⟨(bP BK193.out)⟩, ⟨bW⟩⟩
         ·replace c16 := Bool.eq_false_iff.mpr c16
          subst c16
          have H1 : (some false) = some r := by rw [if_neg (show ¬ (false = true) by decide)] at H; exact H
          clear H
          have H := H1
          clear H1
          obtain rfl := Option.some.inj H
          have p195 : 0 ≤ (x17_2 : Int) := ofD
          have q195 : x17_2 < (l1.length : Int) := ofD
          obtain ⟨ad195, A195_0, c195_0, e195, hx195_0, hl195_0, hi195_0⟩ := at_L1 HR1.out x17_2 p195 q195
          cases e195
          replace hx195_0 := (HB.out.cell (World.block_lt_of_cell? w _ hx195_0)).trans hx195_0
          have HR195_0 := Aside0.mk hi195_0
          have HC195_0 := Aside0.mk hl195_0
          clear hi195_0 hl195_0
          replace p195 := eq_true p195
          replace q195 := eq_true q195
          have hcz29_0 : wr.cell? ⟨gb193, 0, none⟩ = some (.int .i64 a0_0) := (blk_cell BK193.out 0).trans rfl
          have hcz29_1 : wr.cell? ⟨gb193, 1, none⟩ = some (.slice A0_1 l0_1.length c0_1) := (blk_cell BK193.out 1).trans rfl
          have hfz29_0 := blk_frozen BK193.out 0
          have hfz29_1 := blk_frozen BK193.out 1
          go_wp2_with (first | ((with_reducible refine gate_callee (f := 59) rfl ?_); refine goesS (some 24) Tryd.func59 #[.agg #[.int .i64 a0_0, .slice A0_1 l0_1.length c0_1], .slice A195_0 (rd_L1 l1 x17_2).length c195_0] ?_; (with_reducible refine (impl_isWord.calls a0_0 _ _ l0_1 _ _ (rd_L1 l1 x17_2) false _ ?side1 ?side2 ?side3 ?side4 A15.out).mono ?_); (case side1 => exact cP (Kd.C_below HR0_1.out HB.out)); (case side2 => exact HC0_1.out); (case side3 => exact cP (Kd.C_below HR195_0.out HB.out)); (case side4 => exact HC195_0.out); rintro e w30 ⟨rfl, hb⟩; refine ⟨_, rfl, ?_⟩; have n0_ := Aside0.mk (blkB BK193.out hb); have n1_ := Aside0.mk (below_step (bW) hb); clear BK193; clear HB; have BK193 := n0_; have HB := n1_; clear n0_ n1_; (try clear hb); (try clear hb2); (try clear hk); (try clear hi)))
          go_ret
          exact ⟨eW, bW⟩
        ·rw [if_neg c14] at H
         exact absurd H (by simp)
       ·rw [if_neg c13] at H
        exact absurd H (by simp)
      ·rw [if_neg c12] at H
       have c12b0 : decide (x17_2 < (l1.length : Int)) = false := decide_eq_false c12
       clear c12
       obtain rfl := Option.some.inj H
       go_wp2
       go_ret
       exact ⟨eW, bW⟩

/-! ### laws_eqInt64S: function 32 -/
def laws_eqInt64S.l0 : Nat → List Int → List Int → Int → Option (Bool)
 | 0, _, _, _ => none
 | k + 1, x0, x1, x5 => if x5 < (x0.length : Int) then (if 0 ≤ x5 then (if x5 < (x1.length : Int) then (if (rd x0 x5) = (rd x1 x5) then (laws_eqInt64S.l0 k x0 x1 (wrap64 (x5 + 1))) else (some false)) else (none)) else (none)) else (some true)
def laws_eqInt64S.f (k : Nat) (l0 : List Int) (l1 : List Int) : Option (Bool) := if (l0.length : Int) = (l1.length : Int) then (laws_eqInt64S.l0 k l0 l1 0) else (some false)
theorem laws_eqInt64S.mono_l : ∀ k, (∀ y0 y1 y2, LeO (laws_eqInt64S.l0 k y0 y1 y2) (laws_eqInt64S.l0 (k + 1) y0 y1 y2))
 | 0 => fun _ _ _ r h => by simp [laws_eqInt64S.l0] at h
 | k + 1 => by
  have ih0 := laws_eqInt64S.mono_l k
  ·intro y0 y1 y2
   unfold laws_eqInt64S.l0
   repeat' first
   | (with_reducible exact ih0 _ _ _)
   | (with_reducible exact LeO.refl _)
   | (with_reducible exact LeO.none _)
   | (with_reducible refine LeO.ite ?_ ?_)
   | (with_reducible refine LeO.bind ?_ (fun _ => ?_))
   | exact ih0 _ _ _
   | exact LeO.none _
   | refine LeO.ite ?_ ?_
   | refine LeO.bind ?_ (fun _ => ?_)
theorem laws_eqInt64S.mono : ∀ a0 a1 k, LeO (laws_eqInt64S.f k a0 a1) (laws_eqInt64S.f (k + 1) a0 a1) := by
 intro a0 a1 k
 have ih0 := laws_eqInt64S.mono_l k
 unfold laws_eqInt64S.f
 repeat' first
   | (with_reducible exact ih0 _ _ _)
   | (with_reducible exact LeO.refl _)
   | (with_reducible exact LeO.none _)
   | (with_reducible refine LeO.ite ?_ ?_)
   | (with_reducible refine LeO.bind ?_ (fun _ => ?_))
   | exact ih0 _ _ _
   | exact LeO.none _
   | refine LeO.ite ?_ ?_
   | refine LeO.bind ?_ (fun _ => ?_)
set_option maxHeartbeats 8000000 in
set_option maxRecDepth 100000 in
theorem laws_eqInt64S.calls (k : Nat) (A0 : Option Addr) (c0 : Nat) (l0 : List Int) (A1 : Option Addr) (c1 : Nat) (l1 : List Int) (r : Bool) (w : World) (hr0 : Kd.C (Kd.int .i64) w A0 l0.length l0) (hc0 : l0.length ≤ c0) (hr1 : Kd.C (Kd.int .i64) w A1 l1.length l1) (hc1 : l1.length ≤ c1) (h : laws_eqInt64S.f k l0 l1 = some r) :
  Calls Tryd.prog 32 #[.slice A0 l0.length c0, .slice A1 l1.length c1] w fun e w' => e = .returned (.bool r) ∧ Drawn0 w w' := by
 have HR0 := Aside0.mk hr0
 have HC0 := Aside0.mk hc0
 clear hr0 hc0
 have HR1 := Aside0.mk hr1
 have HC1 := Aside0.mk hc1
 clear hr1 hc1
 have H : (if (l0.length : Int) = (l1.length : Int) then (laws_eqInt64S.l0 k l0 l1 0) else (some false)) = some r := h
 clear h
 by_cases c3 : (l0.length : Int) = (l1.length : Int)
 ·rw [if_pos c3] at H
  have c3b0 : ((l0.length : Int) == (l1.length : Int)) = true := beq_iff_eq.mpr c3
  have c3b1 : ((l0.length : Int) != (l1.length : Int)) = false := bne_eq_false_iff_eq.mpr c3
  have c3b2 : (l0.length == l1.length) = true := by first | simpa using c3 | (simp at c3 ⊢; omega)
  clear c3
  have H' := Aside0.mk H
  clear H
  go_enter Tryd.func32, Tryd.ntmps32
  go_wp2
  repeat (go_quiet (fail); try go_wp2)
  go_loopg [5] k (fun kq v5 w' => ∃ (x5_1 : Int), v5 = .int .i64 x5_1 ∧ Aside0 (laws_eqInt64S.l0 kq l0 l1 x5_1 = some r) ∧ Aside0 (kq ≤ k) ∧ Drawn0 w w')
  case atStart => exact ⟨(0), (eW), H', ⟨Nat.le_refl _⟩, by repeat (first | exact Drawn0.refl _ | apply Drawn0.step)⟩
  case round =>
   clear H'
   try clear c1
   try clear p2
   try clear c3
   try clear c3b0
   try clear c3b1
   try clear c3b2
   obtain ⟨x5_1, rfl, HA, HK1, ⟨m1, rfl⟩⟩ := hrel
   cases gk with
   | zero => exact absurd HA.out (by simp [laws_eqInt64S.l0])
   | succ k1 =>
    have H := HA.out
    clear HA
    simp only [laws_eqInt64S.l0] at H
    by_cases c4 : x5_1 < (l0.length : Int)
    ·rw [if_pos c4] at H
     have c4b0 : decide (x5_1 < (l0.length : Int)) = true := decide_eq_true c4
     clear c4
     by_cases c5 : 0 ≤ x5_1
     ·rw [if_pos c5] at H
      have c5b0 : decide (0 ≤ x5_1) = true := decide_eq_true c5
      clear c5
      by_cases c6 : x5_1 < (l1.length : Int)
      ·rw [if_pos c6] at H
       have c6b0 : decide (x5_1 < (l1.length : Int)) = true := decide_eq_true c6
       clear c6
       by_cases c7 : (rd l0 x5_1) = (rd l1 x5_1)
       ·rw [if_pos c7] at H
        have c7b0 : ((rd l0 x5_1) == (rd l1 x5_1)) = true := beq_iff_eq.mpr c7
        have c7b1 : ((rd l0 x5_1) != (rd l1 x5_1)) = false := bne_eq_false_iff_eq.mpr c7
        clear c7
        have H' := Aside0.mk H
        clear H
        have p199 : 0 ≤ (x5_1 : Int) := ofD
        have q199 : x5_1 < (l0.length : Int) := ofD
        obtain ⟨ad199, e199, hx199_0⟩ := Kd.at_int HR0.out x5_1 p199 q199
        cases e199
        replace p199 := eq_true p199
        replace q199 := eq_true q199
        have p200 : 0 ≤ (x5_1 : Int) := ofD
        have q200 : x5_1 < (l1.length : Int) := ofD
        obtain ⟨ad200, e200, hx200_0⟩ := Kd.at_int HR1.out x5_1 p200 q200
        cases e200
        replace p200 := eq_true p200
        replace q200 := eq_true q200
        go_wp2
        repeat (go_quiet (fail); try go_wp2)
        go_roundg k1
        case measure => have := HK1.out; omega
        case rel => exact ⟨(wrap64 (x5_1 + 1)), (eW), H', ⟨by have := HK1.out; omega⟩, by repeat (first | exact Drawn0.refl _ | apply Drawn0.step)⟩
       ·rw [if_neg c7] at H
        have c7b0 : ((rd l0 x5_1) == (rd l1 x5_1)) = false := beq_eq_false_iff_ne.mpr c7
        have c7b1 : ((rd l0 x5_1) != (rd l1 x5_1)) = true := bne_iff_ne.mpr c7
        obtain rfl := Option.some.inj H
        have p199 : 0 ≤ (x5_1 : Int) := ofD
        have q199 : x5_1 < (l0.length : Int) := ofD
        obtain ⟨ad199, e199, hx199_0⟩ := Kd.at_int HR0.out x5_1 p199 q199
        cases e199
        replace p199 := eq_true p199
        replace q199 := eq_true q199
        have p200 : 0 ≤ (x5_1 : Int) := ofD
        have q200 : x5_1 < (l1.length : Int) := ofD
        obtain ⟨ad200, e200, hx200_0⟩ := Kd.at_int HR1.out x5_1 p200 q200
        cases e200
        replace p200 := eq_true p200
        replace q200 := eq_true q200
        go_wp2
        repeat (go_quiet (fail); try go_wp2)
        go_ret
        exact ⟨eW, by repeat (first | exact Drawn0.refl _ | apply Drawn0.step)⟩
      ·rw [if_neg c6] at H
       exact absurd H (by simp)
     ·rw [if_neg c5] at H
      exact absurd H (by simp)
    ·rw [if_neg c4] at H
     have c4b0 : decide (x5_1 < (l0.length : Int)) = false := decide_eq_false c4
     clear c4
     obtain rfl := Option.some.inj H
     go_wp2
     repeat (go_quiet (fail); try go_wp2)
     go_ret
     exact ⟨eW, by repeat (first | exact Drawn0.refl _ | apply Drawn0.step)⟩
 ·rw [if_neg c3] at H
  have c3b0 : ((l0.length : Int) == (l1.length : Int)) = false := beq_eq_false_iff_ne.mpr c3
  have c3b1 : ((l0.length : Int) != (l1.length : Int)) = true := bne_iff_ne.mpr c3
  have c3b2 : (l0.length == l1.length) = false := by first | simpa using c3 | (simp at c3 ⊢; omega)
  obtain rfl := Option.some.inj H
  go_enter Tryd.func32, Tryd.ntmps32
  go_wp2
  repeat (go_quiet (fail); try go_wp2)
  go_ret
  exact ⟨eW, by repeat (first | exact Drawn0.refl _ | apply Drawn0.step)⟩

/-! ### laws_eqAlphabet: function 18 -/
def laws_eqAlphabet.f (k : Nat) (a0_0 : Int) (l0_1 : List Int) (a1_0 : Int) (l1_1 : List Int) : Option (Bool) := if a0_0 = a1_0 then ((laws_eqInt64S.f k l0_1 l1_1).bind fun t203 => (if t203 = true then (some true) else (some false))) else (some false)
theorem laws_eqAlphabet.mono : ∀ a0 a1 a2 a3 k, LeO (laws_eqAlphabet.f k a0 a1 a2 a3) (laws_eqAlphabet.f (k + 1) a0 a1 a2 a3) := by
 intro a0 a1 a2 a3 k
 unfold laws_eqAlphabet.f
 repeat' first
   | (with_reducible exact laws_eqInt64S.mono _ _ _)
   | (with_reducible exact LeO.refl _)
   | (with_reducible exact LeO.none _)
   | (with_reducible refine LeO.ite ?_ ?_)
   | (with_reducible refine LeO.bind ?_ (fun _ => ?_))
   | exact laws_eqInt64S.mono _ _ _
   | exact LeO.none _
   | refine LeO.ite ?_ ?_
   | refine LeO.bind ?_ (fun _ => ?_)
set_option maxHeartbeats 8000000 in
set_option maxRecDepth 100000 in
theorem laws_eqAlphabet.calls (k : Nat) (a0_0 : Int) (A0_1 : Option Addr) (c0_1 : Nat) (l0_1 : List Int) (a1_0 : Int) (A1_1 : Option Addr) (c1_1 : Nat) (l1_1 : List Int) (r : Bool) (w : World) (hr0_1 : Kd.C (Kd.int .i64) w A0_1 l0_1.length l0_1) (hc0_1 : l0_1.length ≤ c0_1) (hr1_1 : Kd.C (Kd.int .i64) w A1_1 l1_1.length l1_1) (hc1_1 : l1_1.length ≤ c1_1) (h : laws_eqAlphabet.f k a0_0 l0_1 a1_0 l1_1 = some r) :
  Calls Tryd.prog 18 #[.agg #[.int .i64 a0_0, .slice A0_1 l0_1.length c0_1], .agg #[.int .i64 a1_0, .slice A1_1 l1_1.length c1_1]] w fun e w' => e = .returned (.bool r) ∧ Below w.heap.size w w' := by
 have hu29 := Tryd.underlying29
 have HR0_1 := Aside0.mk hr0_1
 have HC0_1 := Aside0.mk hc0_1
 clear hr0_1 hc0_1
 have HR1_1 := Aside0.mk hr1_1
 have HC1_1 := Aside0.mk hc1_1
 clear hr1_1 hc1_1
 have HB := Aside0.mk (Below.refl w.heap.size w)
 have H : (if a0_0 = a1_0 then ((laws_eqInt64S.f k l0_1 l1_1).bind fun t203 => (if t203 = true then (some true) else (some false))) else (some false)) = some r := h
 clear h
 by_cases c3 : a0_0 = a1_0
 ·rw [if_pos c3] at H
  have c3b0 : (a0_0 == a1_0) = true := beq_iff_eq.mpr c3
  have c3b1 : (a0_0 != a1_0) = false := bne_eq_false_iff_eq.mpr c3
  clear c3
  replace H := Option.bind_eq_some_iff.mp H
  obtain ⟨t203, A40, H⟩ := H
  replace H : (if t203 = true then (some true) else (some false)) = some r := H
  have A4 := Aside0.mk A40
  clear A40
  by_cases c5 : t203 = true
  ·subst c5
   have H1 : (some true) = some r := by rw [if_pos rfl] at H; exact H
   clear H
   have H := H1
   clear H1
   obtain rfl := Option.some.inj H
   go_enter Tryd.func18, Tryd.ntmps18
   go_wp2_with (first | ((with_reducible refine gate_dst (N := 2) rfl ?_); refine boxS (N := 2) (cs := #[.int .i64 a0_0, .slice A0_1 l0_1.length c0_1]) (t := 29) ?_; intro gb201 hg w6 hbox hb; have n0_ := Aside0.mk (below_step (bW) hb); have n1_ := Aside0.mk (hbox); have n2_ := geW (w := w) hg; have n3_ := geW (w := w) hg; clear HB; have HB := n0_; have BK201 := n1_; have GW201 := n2_; have GE201 := n3_; clear n0_ n1_ n2_ n3_; clear hb hbox hg) | ((with_reducible refine gate_dst (N := 3) rfl ?_); refine boxS (N := 3) (cs := #[.int .i64 a1_0, .slice A1_1 l1_1.length c1_1]) (t := 29) ?_; intro gb202 hg w7 hbox hb; have n0_ := Aside0.mk (blkB BK201.out hb); have n1_ := Aside0.mk (below_step (bW) hb); have n2_ := Aside0.mk (hbox); have n3_ := geW (w := w) hg; have n4_ := geW (w := w) hg; have n5_ := Aside0.mk ((by rw [hg]; exact Nat.ne_of_lt (blk_lt (g := gb201) (o := .cells #[.int .i64 a0_0, .slice A0_1 l0_1.length c0_1] 29 (0, 0)) (bP BK201.out)) : gb201 ≠ gb202)); have n6_ := Aside0.mk ((by rw [hg]; exact Nat.ne_of_gt (blk_lt (g := gb201) (o := .cells #[.int .i64 a0_0, .slice A0_1 l0_1.length c0_1] 29 (0, 0)) (bP BK201.out)) : gb202 ≠ gb201)); clear BK201; clear HB; have BK201 := n0_; have HB := n1_; have BK202 := n2_; have GW202 := n3_; have GE202 := n4_; have NB201_202 := n5_; have NB202_201 := n6_; clear n0_ n1_ n2_ n3_ n4_ n5_ n6_; clear hb hbox hg; have hnb8 := NB201_202.out; have hnc8 := NB202_201.out; obtain ⟨hcz9_0, hcz9_1⟩ := cells2 BK201.out; obtain ⟨hfz9_0, hfz9_1⟩ := frz2 BK201.out; obtain ⟨hcz10_0, hcz10_1⟩ := cells2 BK202.out; obtain ⟨hfz10_0, hfz10_1⟩ := frz2 BK202.out) | ((with_reducible refine gate_callee (f := 32) rfl ?_); refine goesS (some 14) Tryd.func32 #[.slice A0_1 l0_1.length c0_1, .slice A1_1 l1_1.length c1_1] ?_; (with_reducible refine (laws_eqInt64S.calls k _ _ l0_1 _ _ l1_1 true _ ?side1 ?side2 ?side3 ?side4 A4.out).mono ?_); (case side1 => exact cP (Kd.C_below HR0_1.out HB.out)); (case side2 => exact HC0_1.out); (case side3 => exact cP (Kd.C_below HR1_1.out HB.out)); (case side4 => exact HC1_1.out); rintro e w' ⟨rfl, ⟨nd, rfl⟩⟩; refine ⟨_, rfl, ?_⟩))
   go_ret
   exact ⟨eW, bW⟩
  ·replace c5 := Bool.eq_false_iff.mpr c5
   subst c5
   have H1 : (some false) = some r := by rw [if_neg (show ¬ (false = true) by decide)] at H; exact H
   clear H
   have H := H1
   clear H1
   obtain rfl := Option.some.inj H
   go_enter Tryd.func18, Tryd.ntmps18
   go_wp2_with (first | ((with_reducible refine gate_dst (N := 2) rfl ?_); refine boxS (N := 2) (cs := #[.int .i64 a0_0, .slice A0_1 l0_1.length c0_1]) (t := 29) ?_; intro gb201 hg w11 hbox hb; have n0_ := Aside0.mk (below_step (bW) hb); have n1_ := Aside0.mk (hbox); have n2_ := geW (w := w) hg; have n3_ := geW (w := w) hg; clear HB; have HB := n0_; have BK201 := n1_; have GW201 := n2_; have GE201 := n3_; clear n0_ n1_ n2_ n3_; clear hb hbox hg) | ((with_reducible refine gate_dst (N := 3) rfl ?_); refine boxS (N := 3) (cs := #[.int .i64 a1_0, .slice A1_1 l1_1.length c1_1]) (t := 29) ?_; intro gb202 hg w12 hbox hb; have n0_ := Aside0.mk (blkB BK201.out hb); have n1_ := Aside0.mk (below_step (bW) hb); have n2_ := Aside0.mk (hbox); have n3_ := geW (w := w) hg; have n4_ := geW (w := w) hg; have n5_ := Aside0.mk ((by rw [hg]; exact Nat.ne_of_lt (blk_lt (g := gb201) (o := .cells #[.int .i64 a0_0, .slice A0_1 l0_1.length c0_1] 29 (0, 0)) (bP BK201.out)) : gb201 ≠ gb202)); have n6_ := Aside0.mk ((by rw [hg]; exact Nat.ne_of_gt (blk_lt (g := gb201) (o := .cells #[.int .i64 a0_0, .slice A0_1 l0_1.length c0_1] 29 (0, 0)) (bP BK201.out)) : gb202 ≠ gb201)); clear BK201; clear HB; have BK201 := n0_; have HB := n1_; have BK202 := n2_; have GW202 := n3_; have GE202 := n4_; have NB201_202 := n5_; have NB202_201 := n6_; clear n0_ n1_ n2_ n3_ n4_ n5_ n6_; clear hb hbox hg; have hnb13 := NB201_202.out; have hnc13 := NB202_201.out; obtain ⟨hcz14_0, hcz14_1⟩ := cells2 BK201.out; obtain ⟨hfz14_0, hfz14_1⟩ := frz2 BK201.out; obtain ⟨hcz15_0, hcz15_1⟩ := cells2 BK202.out; obtain ⟨hfz15_0, hfz15_1⟩ := frz2 BK202.out) | ((with_reducible refine gate_callee (f := 32) rfl ?_); refine goesS (some 14) Tryd.func32 #[.slice A0_1 l0_1.length c0_1, .slice A1_1 l1_1.length c1_1] ?_; (with_reducible refine (laws_eqInt64S.calls k _ _ l0_1 _ _ l1_1 false _ ?side1 ?side2 ?side3 ?side4 A4.out).mono ?_); (case side1 => exact cP (Kd.C_below HR0_1.out HB.out)); (case side2 => exact HC0_1.out); (case side3 => exact cP (Kd.C_below HR1_1.out HB.out)); (case side4 => exact HC1_1.out); rintro e w' ⟨rfl, ⟨nd, rfl⟩⟩; refine ⟨_, rfl, ?_⟩))
   go_ret
   exact ⟨eW, bW⟩
 ·rw [if_neg c3] at H
  have c3b0 : (a0_0 == a1_0) = false := beq_eq_false_iff_ne.mpr c3
  have c3b1 : (a0_0 != a1_0) = true := bne_iff_ne.mpr c3
  obtain rfl := Option.some.inj H
  go_enter Tryd.func18, Tryd.ntmps18
  go_wp2_with (first | ((with_reducible refine gate_dst (N := 2) rfl ?_); refine boxS (N := 2) (cs := #[.int .i64 a0_0, .slice A0_1 l0_1.length c0_1]) (t := 29) ?_; intro gb201 hg w16 hbox hb; have n0_ := Aside0.mk (below_step (bW) hb); have n1_ := Aside0.mk (hbox); have n2_ := geW (w := w) hg; have n3_ := geW (w := w) hg; clear HB; have HB := n0_; have BK201 := n1_; have GW201 := n2_; have GE201 := n3_; clear n0_ n1_ n2_ n3_; clear hb hbox hg) | ((with_reducible refine gate_dst (N := 3) rfl ?_); refine boxS (N := 3) (cs := #[.int .i64 a1_0, .slice A1_1 l1_1.length c1_1]) (t := 29) ?_; intro gb202 hg w17 hbox hb; have n0_ := Aside0.mk (blkB BK201.out hb); have n1_ := Aside0.mk (below_step (bW) hb); have n2_ := Aside0.mk (hbox); have n3_ := geW (w := w) hg; have n4_ := geW (w := w) hg; have n5_ := Aside0.mk ((by rw [hg]; exact Nat.ne_of_lt (blk_lt (g := gb201) (o := .cells #[.int .i64 a0_0, .slice A0_1 l0_1.length c0_1] 29 (0, 0)) (bP BK201.out)) : gb201 ≠ gb202)); have n6_ := Aside0.mk ((by rw [hg]; exact Nat.ne_of_gt (blk_lt (g := gb201) (o := .cells #[.int .i64 a0_0, .slice A0_1 l0_1.length c0_1] 29 (0, 0)) (bP BK201.out)) : gb202 ≠ gb201)); clear BK201; clear HB; have BK201 := n0_; have HB := n1_; have BK202 := n2_; have GW202 := n3_; have GE202 := n4_; have NB201_202 := n5_; have NB202_201 := n6_; clear n0_ n1_ n2_ n3_ n4_ n5_ n6_; clear hb hbox hg; have hnb18 := NB201_202.out; have hnc18 := NB202_201.out; obtain ⟨hcz19_0, hcz19_1⟩ := cells2 BK201.out; obtain ⟨hfz19_0, hfz19_1⟩ := frz2 BK201.out; obtain ⟨hcz20_0, hcz20_1⟩ := cells2 BK202.out; obtain ⟨hfz20_0, hfz20_1⟩ := frz2 BK202.out))
  go_ret
  exact ⟨eW, bW⟩

/-! ### laws_eqInt64SS: function 19 -/
def laws_eqInt64SS.l0 : Nat → List (List Int) → List (List Int) → Int → Option (Bool)
 | 0, _, _, _ => none
 | k + 1, x0, x1, x5 => if x5 < (x0.length : Int) then (if 0 ≤ x5 then (if x5 < (x1.length : Int) then ((laws_eqInt64S.f k (rd_L1 x0 x5) (rd_L1 x1 x5)).bind fun t206 => (if t206 = true then (laws_eqInt64SS.l0 k x0 x1 (wrap64 (x5 + 1))) else (some false))) else (none)) else (none)) else (some true)
def laws_eqInt64SS.f (k : Nat) (l0 : List (List Int)) (l1 : List (List Int)) : Option (Bool) := if (l0.length : Int) = (l1.length : Int) then (laws_eqInt64SS.l0 k l0 l1 0) else (some false)
theorem laws_eqInt64SS.mono_l : ∀ k, (∀ y0 y1 y2, LeO (laws_eqInt64SS.l0 k y0 y1 y2) (laws_eqInt64SS.l0 (k + 1) y0 y1 y2))
 | 0 => fun _ _ _ r h => by simp [laws_eqInt64SS.l0] at h
 | k + 1 => by
  have ih0 := laws_eqInt64SS.mono_l k
  ·intro y0 y1 y2
   unfold laws_eqInt64SS.l0
   repeat' first
   | (with_reducible exact ih0 _ _ _)
   | (with_reducible exact laws_eqInt64S.mono _ _ _)
   | (with_reducible exact LeO.refl _)
   | (with_reducible exact LeO.none _)
   | (with_reducible refine LeO.ite ?_ ?_)
   | (with_reducible refine LeO.bind ?_ (fun _ => ?_))
   | exact ih0 _ _ _
   | exact laws_eqInt64S.mono _ _ _
   | exact LeO.none _
   | refine LeO.ite ?_ ?_
   | refine LeO.bind ?_ (fun _ => ?_)
theorem laws_eqInt64SS.mono : ∀ a0 a1 k, LeO (laws_eqInt64SS.f k a0 a1) (laws_eqInt64SS.f (k + 1) a0 a1) := by
 intro a0 a1 k
 have ih0 := laws_eqInt64SS.mono_l k
 unfold laws_eqInt64SS.f
 repeat' first
   | (with_reducible exact ih0 _ _ _)
   | (with_reducible exact laws_eqInt64S.mono _ _ _)
   | (with_reducible exact LeO.refl _)
   | (with_reducible exact LeO.none _)
   | (with_reducible refine LeO.ite ?_ ?_)
   | (with_reducible refine LeO.bind ?_ (fun _ => ?_))
   | exact ih0 _ _ _
   | exact laws_eqInt64S.mono _ _ _
   | exact LeO.none _
   | refine LeO.ite ?_ ?_
   | refine LeO.bind ?_ (fun _ => ?_)
set_option maxHeartbeats 8000000 in
set_option maxRecDepth 100000 in
theorem laws_eqInt64SS.calls (k : Nat) (A0 : Option Addr) (c0 : Nat) (l0 : List (List Int)) (A1 : Option Addr) (c1 : Nat) (l1 : List (List Int)) (r : Bool) (w : World) (hr0 : Kd.C (Kd.slice 2 (Kd.int .i64)) w A0 l0.length l0) (hc0 : l0.length ≤ c0) (hr1 : Kd.C (Kd.slice 2 (Kd.int .i64)) w A1 l1.length l1) (hc1 : l1.length ≤ c1) (h : laws_eqInt64SS.f k l0 l1 = some r) :
  Calls Tryd.prog 19 #[.slice A0 l0.length c0, .slice A1 l1.length c1] w fun e w' => e = .returned (.bool r) ∧ Drawn0 w w' := by
 have HR0 := Aside0.mk hr0
 have HC0 := Aside0.mk hc0
 clear hr0 hc0
 have HR1 := Aside0.mk hr1
 have HC1 := Aside0.mk hc1
 clear hr1 hc1
 have H : (if (l0.length : Int) = (l1.length : Int) then (laws_eqInt64SS.l0 k l0 l1 0) else (some false)) = some r := h
 clear h
 by_cases c3 : (l0.length : Int) = (l1.length : Int)
 ·rw [if_pos c3] at H
  have c3b0 : ((l0.length : Int) == (l1.length : Int)) = true := beq_iff_eq.mpr c3
  have c3b1 : ((l0.length : Int) != (l1.length : Int)) = false := bne_eq_false_iff_eq.mpr c3
  have c3b2 : (l0.length == l1.length) = true := by first | simpa using c3 | (simp at c3 ⊢; omega)
  clear c3
  have H' := Aside0.mk H
  clear H
  go_enter Tryd.func19, Tryd.ntmps19
  go_wp2
  repeat (go_quiet (fail); try go_wp2)
  go_loopg [5] k (fun kq v5 w' => ∃ (x5_1 : Int), v5 = .int .i64 x5_1 ∧ Aside0 (laws_eqInt64SS.l0 kq l0 l1 x5_1 = some r) ∧ Aside0 (kq ≤ k) ∧ Drawn0 w w')
  case atStart => exact ⟨(0), (eW), H', ⟨Nat.le_refl _⟩, by repeat (first | exact Drawn0.refl _ | apply Drawn0.step)⟩
  case round =>
   clear H'
   try clear c1
   try clear p2
   try clear c3
   try clear c3b0
   try clear c3b1
   try clear c3b2
   obtain ⟨x5_1, rfl, HA, HK1, ⟨m1, rfl⟩⟩ := hrel
   cases gk with
   | zero => exact absurd HA.out (by simp [laws_eqInt64SS.l0])
   | succ k1 =>
    have H := HA.out
    clear HA
    simp only [laws_eqInt64SS.l0] at H
    by_cases c4 : x5_1 < (l0.length : Int)
    ·rw [if_pos c4] at H
     have c4b0 : decide (x5_1 < (l0.length : Int)) = true := decide_eq_true c4
     clear c4
     by_cases c5 : 0 ≤ x5_1
     ·rw [if_pos c5] at H
      have c5b0 : decide (0 ≤ x5_1) = true := decide_eq_true c5
      clear c5
      by_cases c6 : x5_1 < (l1.length : Int)
      ·rw [if_pos c6] at H
       have c6b0 : decide (x5_1 < (l1.length : Int)) = true := decide_eq_true c6
       clear c6
       replace H := Option.bind_eq_some_iff.mp H
       obtain ⟨t206, A70, H⟩ := H
       replace H : (if t206 = true then (laws_eqInt64SS.l0 k1 l0 l1 (wrap64 (x5_1 + 1))) else (some false)) = some r := H
       have A7 := Aside0.mk A70
       clear A70
       by_cases c8 : t206 = true
       ·subst c8
        have H1 : (laws_eqInt64SS.l0 k1 l0 l1 (wrap64 (x5_1 + 1))) = some r := by rw [if_pos rfl] at H; exact H
        clear H
        have H := H1
        clear H1
        have H' := Aside0.mk H
        clear H
        have p204 : 0 ≤ (x5_1 : Int) := ofD
        have q204 : x5_1 < (l0.length : Int) := ofD
        obtain ⟨ad204, A204_0, c204_0, e204, hx204_0, hl204_0, hi204_0⟩ := at_L1 HR0.out x5_1 p204 q204
        cases e204
        have HR204_0 := Aside0.mk hi204_0
        have HC204_0 := Aside0.mk hl204_0
        clear hi204_0 hl204_0
        replace p204 := eq_true p204
        replace q204 := eq_true q204
        have p205 : 0 ≤ (x5_1 : Int) := ofD
        have q205 : x5_1 < (l1.length : Int) := ofD
        obtain ⟨ad205, A205_0, c205_0, e205, hx205_0, hl205_0, hi205_0⟩ := at_L1 HR1.out x5_1 p205 q205
        cases e205
        have HR205_0 := Aside0.mk hi205_0
        have HC205_0 := Aside0.mk hl205_0
        clear hi205_0 hl205_0
        replace p205 := eq_true p205
        replace q205 := eq_true q205
        go_wp2_with (first | (go_at_call 32; (with_reducible refine (laws_eqInt64S.calls k1 _ _ (rd_L1 l0 x5_1) _ _ (rd_L1 l1 x5_1) true _ ?side1 ?side2 ?side3 ?side4 A7.out).mono ?_); (case side1 => exact cP HR204_0.out); (case side2 => exact HC204_0.out); (case side3 => exact cP HR205_0.out); (case side4 => exact HC205_0.out); rintro e w' ⟨rfl, ⟨nd, rfl⟩⟩; (try first | exact ⟨rfl, _, World.drewN_drewN _ _ _⟩ | exact ⟨rfl, _, Eq.trans (World.drewN_drewN _ _ _) (congrArg (World.drewN _) (Nat.add_assoc _ _ _))⟩)))
        repeat (go_quiet (first | (go_at_call 32; (with_reducible refine (laws_eqInt64S.calls k1 _ _ (rd_L1 l0 x5_1) _ _ (rd_L1 l1 x5_1) true _ ?side1 ?side2 ?side3 ?side4 A7.out).mono ?_); (case side1 => exact cP HR204_0.out); (case side2 => exact HC204_0.out); (case side3 => exact cP HR205_0.out); (case side4 => exact HC205_0.out); rintro e w' ⟨rfl, ⟨nd, rfl⟩⟩; (try first | exact ⟨rfl, _, World.drewN_drewN _ _ _⟩ | exact ⟨rfl, _, Eq.trans (World.drewN_drewN _ _ _) (congrArg (World.drewN _) (Nat.add_assoc _ _ _))⟩))); try go_wp2_with (first | (go_at_call 32; (with_reducible refine (laws_eqInt64S.calls k1 _ _ (rd_L1 l0 x5_1) _ _ (rd_L1 l1 x5_1) true _ ?side1 ?side2 ?side3 ?side4 A7.out).mono ?_); (case side1 => exact cP HR204_0.out); (case side2 => exact HC204_0.out); (case side3 => exact cP HR205_0.out); (case side4 => exact HC205_0.out); rintro e w' ⟨rfl, ⟨nd, rfl⟩⟩; (try first | exact ⟨rfl, _, World.drewN_drewN _ _ _⟩ | exact ⟨rfl, _, Eq.trans (World.drewN_drewN _ _ _) (congrArg (World.drewN _) (Nat.add_assoc _ _ _))⟩))))
        go_roundg k1
        case measure => have := HK1.out; omega
        case rel => exact ⟨(wrap64 (x5_1 + 1)), (eW), H', ⟨by have := HK1.out; omega⟩, by repeat (first | exact Drawn0.refl _ | apply Drawn0.step)⟩
       ·replace c8 := Bool.eq_false_iff.mpr c8
        subst c8
        have H1 : (some false) = some r := by rw [if_neg (show ¬ (false = true) by decide)] at H; exact H
        clear H
        have H := H1
        clear H1
        obtain rfl := Option.some.inj H
        have p204 : 0 ≤ (x5_1 : Int) := ofD
        have q204 : x5_1 < (l0.length : Int) := ofD
        obtain ⟨ad204, A204_0, c204_0, e204, hx204_0, hl204_0, hi204_0⟩ := at_L1 HR0.out x5_1 p204 q204
        cases e204
        have HR204_0 := Aside0.mk hi204_0
        have HC204_0 := Aside0.mk hl204_0
        clear hi204_0 hl204_0
        replace p204 := eq_true p204
        replace q204 := eq_true q204
        have p205 : 0 ≤ (x5_1 : Int) := ofD
        have q205 : x5_1 < (l1.length : Int) := ofD
        obtain ⟨ad205, A205_0, c205_0, e205, hx205_0, hl205_0, hi205_0⟩ := at_L1 HR1.out x5_1 p205 q205
        cases e205
        have HR205_0 := Aside0.mk hi205_0
        have HC205_0 := Aside0.mk hl205_0
        clear hi205_0 hl205_0
        replace p205 := eq_true p205
        replace q205 := eq_true q205
        go_wp2_with (first | (go_at_call 32; (with_reducible refine (laws_eqInt64S.calls k1 _ _ (rd_L1 l0 x5_1) _ _ (rd_L1 l1 x5_1) false _ ?side1 ?side2 ?side3 ?side4 A7.out).mono ?_); (case side1 => exact cP HR204_0.out); (case side2 => exact HC204_0.out); (case side3 => exact cP HR205_0.out); (case side4 => exact HC205_0.out); rintro e w' ⟨rfl, ⟨nd, rfl⟩⟩; (try first | exact ⟨rfl, _, World.drewN_drewN _ _ _⟩ | exact ⟨rfl, _, Eq.trans (World.drewN_drewN _ _ _) (congrArg (World.drewN _) (Nat.add_assoc _ _ _))⟩)))
        repeat (go_quiet (first | (go_at_call 32; (with_reducible refine (laws_eqInt64S.calls k1 _ _ (rd_L1 l0 x5_1) _ _ (rd_L1 l1 x5_1) false _ ?side1 ?side2 ?side3 ?side4 A7.out).mono ?_); (case side1 => exact cP HR204_0.out); (case side2 => exact HC204_0.out); (case side3 => exact cP HR205_0.out); (case side4 => exact HC205_0.out); rintro e w' ⟨rfl, ⟨nd, rfl⟩⟩; (try first | exact ⟨rfl, _, World.drewN_drewN _ _ _⟩ | exact ⟨rfl, _, Eq.trans (World.drewN_drewN _ _ _) (congrArg (World.drewN _) (Nat.add_assoc _ _ _))⟩))); try go_wp2_with (first | (go_at_call 32; (with_reducible refine (laws_eqInt64S.calls k1 _ _ (rd_L1 l0 x5_1) _ _ (rd_L1 l1 x5_1) false _ ?side1 ?side2 ?side3 ?side4 A7.out).mono ?_); (case side1 => exact cP HR204_0.out); (case side2 => exact HC204_0.out); (case side3 => exact cP HR205_0.out); (case side4 => exact HC205_0.out); rintro e w' ⟨rfl, ⟨nd, rfl⟩⟩; (try first | exact ⟨rfl, _, World.drewN_drewN _ _ _⟩ | exact ⟨rfl, _, Eq.trans (World.drewN_drewN _ _ _) (congrArg (World.drewN _) (Nat.add_assoc _ _ _))⟩))))
        go_ret
        exact ⟨eW, by repeat (first | exact Drawn0.refl _ | apply Drawn0.step)⟩
      ·rw [if_neg c6] at H
       exact absurd H (by simp)
     ·rw [if_neg c5] at H
      exact absurd H (by simp)
    ·rw [if_neg c4] at H
     have c4b0 : decide (x5_1 < (l0.length : Int)) = false := decide_eq_false c4
     clear c4
     obtain rfl := Option.some.inj H
     go_wp2
     repeat (go_quiet (fail); try go_wp2)
     go_ret
     exact ⟨eW, by repeat (first | exact Drawn0.refl _ | apply Drawn0.step)⟩
 ·rw [if_neg c3] at H
  have c3b0 : ((l0.length : Int) == (l1.length : Int)) = false := beq_eq_false_iff_ne.mpr c3
  have c3b1 : ((l0.length : Int) != (l1.length : Int)) = true := bne_iff_ne.mpr c3
  have c3b2 : (l0.length == l1.length) = false := by first | simpa using c3 | (simp at c3 ⊢; omega)
  obtain rfl := Option.some.inj H
  go_enter Tryd.func19, Tryd.ntmps19
  go_wp2
  repeat (go_quiet (fail); try go_wp2)
  go_ret
  exact ⟨eW, by repeat (first | exact Drawn0.refl _ | apply Drawn0.step)⟩

end Go.Proofs.YthbaocejgjpfoaaDoor.P
end M1
