import Derived.ArgAppend
import Derived.Below
import Derived.BigQuiet
import Derived.Deep.AppendLies
import Derived.Deep.CutBlock
import Derived.Deep.DeepCutAuto
import Derived.Deep.Draws
import Derived.Deep.LoopGhost
import Derived.Deep.OwnRows
import Derived.Deep.QuietTactic
import Derived.Deep.RegionHeld3
import Derived.KernelRfl
import Derived.Laws.BitsLemmas
import Derived.Laws.BytesArg
import Derived.Laws.IdiomCopy
import Derived.Laws.MakeOwn
import Derived.Laws.OwnMore
import Derived.Laws.Rows
import Derived.Laws.Slices
import Derived.Laws.StructEq
import Derived.Lib.AppendStr
import Derived.Lib.ConvBytes
import Derived.Lib.SliceRun
import Derived.Maps.AppendAt
import Derived.OrdersHeld
import Derived.OwnWalk
import Derived.RowKit
import Derived.RowKit3
import Derived.Shelf.Abstract
import Derived.Tactics
import Derived.Test.YtcibmpomidhgiaaProg
import Derived.WalkKit
import Derived.WideLaws
import Derived.Test.YtcibmpomidhgiaaCFnExactUsefulStates2
import Derived.Test.YtcibmpomidhgiaaCFnExactUsefulStates3
section M0
namespace Go.Proofs.Ytcibmpomidhgiaa.P
open Go.RowKit Go.Proofs.Ytcibmpomidhgiaa.Sh Go.Proofs.YtcibmpomidhgiaaW.PrintWords Go.Proofs.YtcibmpomidhgiaaW.PrintLast Go.Proofs.YtcibmpomidhgiaaW.PrintMore
attribute [local go_sem] max2_int min2_int max_two min_two max_three min_three max_four min_four   -- for this text's walks alone
set_option linter.unusedVariables false
set_option linter.unusedSimpArgs false

/-! ### laws_FnExactAlphabetOfPlaces: function 3 -/
mutual
def laws_FnExactAlphabetOfPlaces.j0 : Nat → Int → List Int → Int → List Int → Int → Bool → Int → List Int → Int → List Int → Option (Bool)
 | 0, _, _, _, _, _, _, _, _, _, _ => none
 | k + 1, x0, x1, x6, x7, x9, x41, x173000, x173001, x182000, x182001 => if x41 = true then (some false) else ((laws_toInt64S.f k x1).bind fun t183 => ((laws_eqInt64S.f k x7 t183).bind fun t186 => (if t186 = true then ((laws_markInt64S.f k x7 1).bind fun bt187 => (if bt187.1 < 0 then (laws_FnExactAlphabetOfPlaces.j1 k x0 x1 x6 true x173000 x173001 x182000 x182001) else ((laws_eqAlphabet.f k x182000 x182001 x173000 x173001).bind fun t189 => (if t189 = true then (laws_FnExactAlphabetOfPlaces.j1 k x0 x1 x6 (x9 != x6) x173000 x173001 x182000 x182001) else (laws_FnExactAlphabetOfPlaces.j1 k x0 x1 x6 true x173000 x173001 x182000 x182001))))) else (some false))))
def laws_FnExactAlphabetOfPlaces.j1 : Nat → Int → List Int → Int → Bool → Int → List Int → Int → List Int → Option (Bool)
 | 0, _, _, _, _, _, _, _, _ => none
 | k + 1, x0, x1, x6, x62, x173000, x173001, x182000, x182001 => if x62 = true then (some false) else ((laws_markAlphabet.f k x182000 x182001 1).bind fun bt190 => ((laws_heldAlphabet.f k x182000 bt190.2 1).bind fun t192 => (if t192 < 0 then (some false) else (if t192 = bt190.1 then ((laws_toInt64S.f k x1).bind fun t193 => ((impl_AlphabetOfPlaces.f k x0 t193).bind fun bt196 => ((laws_eqAlphabet.f k bt196.1 bt196.2.1 x173000 x173001).bind fun t202 => (if t202 = true then (laws_FnExactAlphabetOfPlaces.j2 k bt190.1 (bt196.2.2 != x6) x182000 bt190.2) else (laws_FnExactAlphabetOfPlaces.j2 k bt190.1 true x182000 bt190.2))))) else (some false)))))
def laws_FnExactAlphabetOfPlaces.j2 : Nat → Int → Bool → Int → List Int → Option (Bool)
 | 0, _, _, _, _ => none
 | k + 1, x11, x89, x182000, x182001 => if x89 = true then (some false) else ((laws_heldAlphabet.f k x182000 x182001 1).bind fun t203 => (if t203 < 0 then (some false) else (if t203 = x11 then (some true) else (some false))))
end
def laws_FnExactAlphabetOfPlaces.f (k : Nat) (a0 : Int) (l1 : List Int) : Option (Bool) := if (l1.length : Int) > 1048576 then (some true) else ((laws_toInt64S.f k l1).bind fun t164 => ((spec_AlphabetOfPlaces.f k a0 t164).bind fun bt167 => ((laws_toInt64S.f k l1).bind fun t173 => ((impl_AlphabetOfPlaces.f k a0 t173).bind fun bt176 => ((laws_eqAlphabet.f k bt176.1 bt176.2.1 bt167.1 bt167.2.1).bind fun t182 => (if t182 = true then (laws_FnExactAlphabetOfPlaces.j0 k a0 l1 bt167.2.2 t173 bt176.2.2 (bt176.2.2 != bt167.2.2) bt167.1 bt167.2.1 bt176.1 bt176.2.1) else (laws_FnExactAlphabetOfPlaces.j0 k a0 l1 bt167.2.2 t173 bt176.2.2 true bt167.1 bt167.2.1 bt176.1 bt176.2.1)))))))
theorem laws_FnExactAlphabetOfPlaces.mono_l : ∀ k, (∀ y0 y1 y2 y3 y4 y5 y6 y7 y8 y9, LeO (laws_FnExactAlphabetOfPlaces.j0 k y0 y1 y2 y3 y4 y5 y6 y7 y8 y9) (laws_FnExactAlphabetOfPlaces.j0 (k + 1) y0 y1 y2 y3 y4 y5 y6 y7 y8 y9)) ∧ (∀ y0 y1 y2 y3 y4 y5 y6 y7, LeO (laws_FnExactAlphabetOfPlaces.j1 k y0 y1 y2 y3 y4 y5 y6 y7) (laws_FnExactAlphabetOfPlaces.j1 (k + 1) y0 y1 y2 y3 y4 y5 y6 y7)) ∧ (∀ y0 y1 y2 y3, LeO (laws_FnExactAlphabetOfPlaces.j2 k y0 y1 y2 y3) (laws_FnExactAlphabetOfPlaces.j2 (k + 1) y0 y1 y2 y3))
 | 0 => ⟨fun _ _ _ _ _ _ _ _ _ _ r h => by simp [laws_FnExactAlphabetOfPlaces.j0] at h, fun _ _ _ _ _ _ _ _ r h => by simp [laws_FnExactAlphabetOfPlaces.j1] at h, fun _ _ _ _ r h => by simp [laws_FnExactAlphabetOfPlaces.j2] at h⟩
 | k + 1 => by
  obtain ⟨ih0, ih1, ih2⟩ := laws_FnExactAlphabetOfPlaces.mono_l k
  refine ⟨?_, ?_, ?_⟩
  ·intro y0 y1 y2 y3 y4 y5 y6 y7 y8 y9
   unfold laws_FnExactAlphabetOfPlaces.j0
   repeat' first
   | (with_reducible exact ih0 _ _ _ _ _ _ _ _ _ _)
   | (with_reducible exact ih1 _ _ _ _ _ _ _ _)
   | (with_reducible exact ih2 _ _ _ _)
   | (with_reducible exact impl_AlphabetOfPlaces.mono _ _ _)
   | (with_reducible exact laws_eqAlphabet.mono _ _ _ _ _)
   | (with_reducible exact laws_eqInt64S.mono _ _ _)
   | (with_reducible exact laws_heldAlphabet.mono _ _ _ _)
   | (with_reducible exact laws_markAlphabet.mono _ _ _ _)
   | (with_reducible exact laws_markInt64S.mono _ _ _)
   | (with_reducible exact laws_toInt64S.mono _ _)
   | (with_reducible exact spec_AlphabetOfPlaces.mono _ _ _)
   | (with_reducible exact LeO.refl _)
   | (with_reducible exact LeO.none _)
   | (with_reducible refine LeO.ite ?_ ?_)
   | (with_reducible refine LeO.bind ?_ (fun _ => ?_))
   | exact ih0 _ _ _ _ _ _ _ _ _ _
   | exact ih1 _ _ _ _ _ _ _ _
   | exact ih2 _ _ _ _
   | exact impl_AlphabetOfPlaces.mono _ _ _
   | exact laws_eqAlphabet.mono _ _ _ _ _
   | exact laws_eqInt64S.mono _ _ _
   | exact laws_heldAlphabet.mono _ _ _ _
   | exact laws_markAlphabet.mono _ _ _ _
   | exact laws_markInt64S.mono _ _ _
   | exact laws_toInt64S.mono _ _
   | exact spec_AlphabetOfPlaces.mono _ _ _
   | exact LeO.none _
   | refine LeO.ite ?_ ?_
   | refine LeO.bind ?_ (fun _ => ?_)
  ·intro y0 y1 y2 y3 y4 y5 y6 y7
   unfold laws_FnExactAlphabetOfPlaces.j1
   repeat' first
   | (with_reducible exact ih0 _ _ _ _ _ _ _ _ _ _)
   | (with_reducible exact ih1 _ _ _ _ _ _ _ _)
   | (with_reducible exact ih2 _ _ _ _)
   | (with_reducible exact impl_AlphabetOfPlaces.mono _ _ _)
   | (with_reducible exact laws_eqAlphabet.mono _ _ _ _ _)
   | (with_reducible exact laws_eqInt64S.mono _ _ _)
   | (with_reducible exact laws_heldAlphabet.mono _ _ _ _)
   | (with_reducible exact laws_markAlphabet.mono _ _ _ _)
   | (with_reducible exact laws_markInt64S.mono _ _ _)
   | (with_reducible exact laws_toInt64S.mono _ _)
   | (with_reducible exact spec_AlphabetOfPlaces.mono _ _ _)
   | (with_reducible exact LeO.refl _)
   | (with_reducible exact LeO.none _)
   | (with_reducible refine LeO.ite ?_ ?_)
   | (with_reducible refine LeO.bind ?_ (fun _ => ?_))
   | exact ih0 _ _ _ _ _ _ _ _ _ _
   | exact ih1 _ _ _ _ _ _ _ _
   | exact ih2 _ _ _ _
   | exact impl_AlphabetOfPlaces.mono _ _ _
   | exact laws_eqAlphabet.mono _ _ _ _ _
   | exact laws_eqInt64S.mono _ _ _
   | exact laws_heldAlphabet.mono _ _ _ _
   | exact laws_markAlphabet.mono _ _ _ _
   | exact laws_markInt64S.mono _ _ _
   | exact laws_toInt64S.mono _ _
   | exact spec_AlphabetOfPlaces.mono _ _ _
   | exact LeO.none _
   | refine LeO.ite ?_ ?_
   | refine LeO.bind ?_ (fun _ => ?_)
  ·intro y0 y1 y2 y3
   unfold laws_FnExactAlphabetOfPlaces.j2
   repeat' first
   | (with_reducible exact ih0 _ _ _ _ _ _ _ _ _ _)
   | (with_reducible exact ih1 _ _ _ _ _ _ _ _)
   | (with_reducible exact ih2 _ _ _ _)
   | (with_reducible exact impl_AlphabetOfPlaces.mono _ _ _)
   | (with_reducible exact laws_eqAlphabet.mono _ _ _ _ _)
   | (with_reducible exact laws_eqInt64S.mono _ _ _)
   | (with_reducible exact laws_heldAlphabet.mono _ _ _ _)
   | (with_reducible exact laws_markAlphabet.mono _ _ _ _)
   | (with_reducible exact laws_markInt64S.mono _ _ _)
   | (with_reducible exact laws_toInt64S.mono _ _)
   | (with_reducible exact spec_AlphabetOfPlaces.mono _ _ _)
   | (with_reducible exact LeO.refl _)
   | (with_reducible exact LeO.none _)
   | (with_reducible refine LeO.ite ?_ ?_)
   | (with_reducible refine LeO.bind ?_ (fun _ => ?_))
   | exact ih0 _ _ _ _ _ _ _ _ _ _
   | exact ih1 _ _ _ _ _ _ _ _
   | exact ih2 _ _ _ _
   | exact impl_AlphabetOfPlaces.mono _ _ _
   | exact laws_eqAlphabet.mono _ _ _ _ _
   | exact laws_eqInt64S.mono _ _ _
   | exact laws_heldAlphabet.mono _ _ _ _
   | exact laws_markAlphabet.mono _ _ _ _
   | exact laws_markInt64S.mono _ _ _
   | exact laws_toInt64S.mono _ _
   | exact spec_AlphabetOfPlaces.mono _ _ _
   | exact LeO.none _
   | refine LeO.ite ?_ ?_
   | refine LeO.bind ?_ (fun _ => ?_)
theorem laws_FnExactAlphabetOfPlaces.mono : ∀ a0 a1 k, LeO (laws_FnExactAlphabetOfPlaces.f k a0 a1) (laws_FnExactAlphabetOfPlaces.f (k + 1) a0 a1) := by
 intro a0 a1 k
 obtain ⟨ih0, ih1, ih2⟩ := laws_FnExactAlphabetOfPlaces.mono_l k
 unfold laws_FnExactAlphabetOfPlaces.f
 repeat' first
   | (with_reducible exact ih0 _ _ _ _ _ _ _ _ _ _)
   | (with_reducible exact ih1 _ _ _ _ _ _ _ _)
   | (with_reducible exact ih2 _ _ _ _)
   | (with_reducible exact impl_AlphabetOfPlaces.mono _ _ _)
   | (with_reducible exact laws_eqAlphabet.mono _ _ _ _ _)
   | (with_reducible exact laws_eqInt64S.mono _ _ _)
   | (with_reducible exact laws_heldAlphabet.mono _ _ _ _)
   | (with_reducible exact laws_markAlphabet.mono _ _ _ _)
   | (with_reducible exact laws_markInt64S.mono _ _ _)
   | (with_reducible exact laws_toInt64S.mono _ _)
   | (with_reducible exact spec_AlphabetOfPlaces.mono _ _ _)
   | (with_reducible exact LeO.refl _)
   | (with_reducible exact LeO.none _)
   | (with_reducible refine LeO.ite ?_ ?_)
   | (with_reducible refine LeO.bind ?_ (fun _ => ?_))
   | exact ih0 _ _ _ _ _ _ _ _ _ _
   | exact ih1 _ _ _ _ _ _ _ _
   | exact ih2 _ _ _ _
   | exact impl_AlphabetOfPlaces.mono _ _ _
   | exact laws_eqAlphabet.mono _ _ _ _ _
   | exact laws_eqInt64S.mono _ _ _
   | exact laws_heldAlphabet.mono _ _ _ _
   | exact laws_markAlphabet.mono _ _ _ _
   | exact laws_markInt64S.mono _ _ _
   | exact laws_toInt64S.mono _ _
   | exact spec_AlphabetOfPlaces.mono _ _ _
   | exact LeO.none _
   | refine LeO.ite ?_ ?_
   | refine LeO.bind ?_ (fun _ => ?_)
set_option maxHeartbeats 8000000 in
set_option maxRecDepth 100000 in
theorem laws_FnExactAlphabetOfPlaces.calls (k : Nat) (a0 : Int) (A1 : Option Addr) (c1 : Nat) (l1 : List Int) (r : Bool) (w : World) (hr1 : Kd.C (Kd.int .i64) w A1 l1.length l1) (hc1 : l1.length ≤ c1) (h : laws_FnExactAlphabetOfPlaces.f k a0 l1 = some r) (hT_ : r = true) :
  Calls Try.prog 3 #[.int .i64 a0, .slice A1 l1.length c1] w fun e w' => e = .returned (.bool r) ∧ Below w.heap.size w w' := by
 have HT_ := Aside0.mk hT_
 clear hT_
 have hu24 := Try.underlying24
 have HR1 := Aside0.mk hr1
 have HC1 := Aside0.mk hc1
 clear hr1 hc1
 have HB := Aside0.mk (Below.refl w.heap.size w)
 have H : (if (l1.length : Int) > 1048576 then (some true) else ((laws_toInt64S.f k l1).bind fun t164 => ((spec_AlphabetOfPlaces.f k a0 t164).bind fun bt167 => ((laws_toInt64S.f k l1).bind fun t173 => ((impl_AlphabetOfPlaces.f k a0 t173).bind fun bt176 => ((laws_eqAlphabet.f k bt176.1 bt176.2.1 bt167.1 bt167.2.1).bind fun t182 => (if t182 = true then (laws_FnExactAlphabetOfPlaces.j0 k a0 l1 bt167.2.2 t173 bt176.2.2 (bt176.2.2 != bt167.2.2) bt167.1 bt167.2.1 bt176.1 bt176.2.1) else (laws_FnExactAlphabetOfPlaces.j0 k a0 l1 bt167.2.2 t173 bt176.2.2 true bt167.1 bt167.2.1 bt176.1 bt176.2.1)))))))) = some r := h
 clear h
 by_cases c3 : (l1.length : Int) > 1048576
 ·rw [if_pos c3] at H
  have c3b0 : decide (1048576 < (l1.length : Int)) = true := decide_eq_true c3
  have c3b1 : decide (1048576 < l1.length) = true := decide_eq_true (by omega)
  clear c3
  obtain rfl := Option.some.inj H
  go_enter Try.func3, Try.ntmps3
  go_wp2
  go_ret
  exact ⟨eW, bW⟩
 ·rw [if_neg c3] at H
  have c3b0 : decide (1048576 < (l1.length : Int)) = false := decide_eq_false c3
  have c3b1 : decide (1048576 < l1.length) = false := decide_eq_false (by omega)
  clear c3
  replace H := Option.bind_eq_some_iff.mp H
  obtain ⟨t164, A40, H⟩ := H
  replace H : ((spec_AlphabetOfPlaces.f k a0 t164).bind fun bt167 => ((laws_toInt64S.f k l1).bind fun t173 => ((impl_AlphabetOfPlaces.f k a0 t173).bind fun bt176 => ((laws_eqAlphabet.f k bt176.1 bt176.2.1 bt167.1 bt167.2.1).bind fun t182 => (if t182 = true then (laws_FnExactAlphabetOfPlaces.j0 k a0 l1 bt167.2.2 t173 bt176.2.2 (bt176.2.2 != bt167.2.2) bt167.1 bt167.2.1 bt176.1 bt176.2.1) else (laws_FnExactAlphabetOfPlaces.j0 k a0 l1 bt167.2.2 t173 bt176.2.2 true bt167.1 bt167.2.1 bt176.1 bt176.2.1)))))) = some r := H
  have A4 := Aside0.mk A40
  clear A40
  replace H := Option.bind_eq_some_iff.mp H
  obtain ⟨⟨t167, t168, t171⟩, A50, H⟩ := H
  replace H : ((laws_toInt64S.f k l1).bind fun t173 => ((impl_AlphabetOfPlaces.f k a0 t173).bind fun bt176 => ((laws_eqAlphabet.f k bt176.1 bt176.2.1 t167 t168).bind fun t182 => (if t182 = true then (laws_FnExactAlphabetOfPlaces.j0 k a0 l1 t171 t173 bt176.2.2 (bt176.2.2 != t171) t167 t168 bt176.1 bt176.2.1) else (laws_FnExactAlphabetOfPlaces.j0 k a0 l1 t171 t173 bt176.2.2 true t167 t168 bt176.1 bt176.2.1))))) = some r := H
  have A5 := Aside0.mk A50
  clear A50
  replace H := Option.bind_eq_some_iff.mp H
  obtain ⟨t173, A60, H⟩ := H
  replace H : ((impl_AlphabetOfPlaces.f k a0 t173).bind fun bt176 => ((laws_eqAlphabet.f k bt176.1 bt176.2.1 t167 t168).bind fun t182 => (if t182 = true then (laws_FnExactAlphabetOfPlaces.j0 k a0 l1 t171 t173 bt176.2.2 (bt176.2.2 != t171) t167 t168 bt176.1 bt176.2.1) else (laws_FnExactAlphabetOfPlaces.j0 k a0 l1 t171 t173 bt176.2.2 true t167 t168 bt176.1 bt176.2.1)))) = some r := H
  have A6 := Aside0.mk A60
  clear A60
  replace H := Option.bind_eq_some_iff.mp H
  obtain ⟨⟨t176, t177, t180⟩, A70, H⟩ := H
  replace H : ((laws_eqAlphabet.f k t176 t177 t167 t168).bind fun t182 => (if t182 = true then (laws_FnExactAlphabetOfPlaces.j0 k a0 l1 t171 t173 t180 (t180 != t171) t167 t168 t176 t177) else (laws_FnExactAlphabetOfPlaces.j0 k a0 l1 t171 t173 t180 true t167 t168 t176 t177))) = some r := H
  have A7 := Aside0.mk A70
  clear A70
  have HC8 := Aside0.mk H
  clear H
  go_enter Try.func3, Try.ntmps3
  go_upto_region 6 with (first | ((with_reducible refine gate_callee (f := 9) rfl ?_); refine goesS (some 21) Try.func9 #[.slice A1 l1.length c1] ?_; (with_reducible refine (laws_toInt64S.calls k _ _ l1 t164 _ ?side1 ?side2 A4.out).mono ?_); (case side1 => exact cP HR1.out); (case side2 => exact HC1.out); rintro e w9 ⟨v165, rfl, ho0, hb⟩; refine ⟨_, rfl, ?_⟩; have n0_ := Aside0.mk (Kd.R_lower ho0 (below_size (bW))); have n1_ := Aside0.mk (below_step (bW) hb); clear HB; have HO166 := n0_; have HB := n1_; clear n0_ n1_; (try clear hb); (try clear hb2); (try clear hk); (try clear hi); (try clear ho0); obtain ⟨Ao10, co10, eo10⟩ := Kd.R_slice HO166.out; subst eo10) | ((with_reducible refine gate_callee (f := 8) rfl ?_); refine goesS (some 22) Try.func8 #[.int .i64 a0, .slice Ao10 t164.length co10] ?_; (with_reducible refine (spec_AlphabetOfPlaces.calls k a0 _ _ t164 t167 t168 t171 _ ?side1 ?side2 A5.out).mono ?_); (case side1 => exact cP ((Kd.R_reads' HO166.out).2.2)); (case side2 => exact (Kd.R_reads' HO166.out).2.1); rintro e w11 ⟨v169, rfl, ho0, hb⟩; refine ⟨_, rfl, ?_⟩; have n0_ := Aside0.mk (Kd.R_elder' (rP HO166.out) (Kd.R_base ho0) hb); have n1_ := Aside0.mk (Kd.R_lower (Kd.R_new' ho0 (Kd.R_lt (rP HO166.out))) (below_size (bW))); have n2_ := Aside0.mk (below_step (bW) hb); clear HO166; clear HB; have HO166 := n0_; have HO170 := n1_; have HB := n2_; clear n0_ n1_ n2_; (try clear hb); (try clear hb2); (try clear hk); (try clear hi); (try clear ho0)) | ((with_reducible refine gate_dst (N := 5) rfl ?_); refine boxS (N := 5) (cs := #[.int .i64 0, .slice none 0 0]) (t := 24) ?_; intro gb172 hg w12 hbox hb; have n0_ := Aside0.mk (Kd.R_below (rP HO166.out) hb); have n1_ := Aside0.mk (Kd.R_below (rP HO170.out) hb); have n2_ := Aside0.mk (below_step (bW) hb); have n3_ := Aside0.mk (hbox); have n4_ := geW (w := w) hg; have n5_ := geW (w := w) hg; clear HO166; clear HO170; clear HB; have HO166 := n0_; have HO170 := n1_; have HB := n2_; have BK172 := n3_; have GW172 := n4_; have GE172 := n5_; clear n0_ n1_ n2_ n3_ n4_ n5_; clear hb hbox hg; obtain ⟨hcz13_0, hcz13_1⟩ := cells2 BK172.out; obtain ⟨hfz13_0, hfz13_1⟩ := frz2 BK172.out; obtain ⟨Ao14, co14, eo14⟩ := Kd.R_slice HO170.out; subst eo14) | ((with_reducible refine gate_callee (f := 9) rfl ?_); refine goesS (some 26) Try.func9 #[.slice A1 l1.length c1] ?_; (with_reducible refine (laws_toInt64S.calls k _ _ l1 t173 _ ?side1 ?side2 A6.out).mono ?_); (case side1 => exact Kd.C_below HR1.out (bW)); (case side2 => exact HC1.out); rintro e w15 ⟨v174, rfl, ho0, hb⟩; refine ⟨_, rfl, ?_⟩; have n0_ := Aside0.mk (Kd.R_elder' (by (with_reducible repeat (first | apply Kd.R_alloc | apply Kd.R_drewN | apply Kd.R_drew)); exact (Kd.R_mono (Kd.R_far (p := ⟨gb172, 1, none⟩) (Kd.R_far (p := ⟨gb172, 0, none⟩) (Kd.R_types HO166.out BK172.out (by decide)) (fun _ hk => hk.2) (.int .i64 t167)) (fun _ hk => hk.2) (.slice Ao14 t168.length co14)) (fun _ h_ => h_.1))) (Kd.R_base ho0) hb); have n1_ := Aside0.mk (Kd.R_elder' (by (with_reducible repeat (first | apply Kd.R_alloc | apply Kd.R_drewN | apply Kd.R_drew)); exact (Kd.R_mono (Kd.R_far (p := ⟨gb172, 1, none⟩) (Kd.R_far (p := ⟨gb172, 0, none⟩) (Kd.R_types HO170.out BK172.out (by decide)) (fun _ hk => hk.2) (.int .i64 t167)) (fun _ hk => hk.2) (.slice Ao14 t168.length co14)) (fun _ h_ => h_.1))) (Kd.R_base ho0) hb); have n2_ := Aside0.mk (Kd.R_lower (Kd.R_new' (Kd.R_new' ho0 (Kd.R_lt (by (with_reducible repeat (first | apply Kd.R_alloc | apply Kd.R_drewN | apply Kd.R_drew)); exact (Kd.R_mono (Kd.R_far (p := ⟨gb172, 1, none⟩) (Kd.R_far (p := ⟨gb172, 0, none⟩) (Kd.R_types HO166.out BK172.out (by decide)) (fun _ hk => hk.2) (.int .i64 t167)) (fun _ hk => hk.2) (.slice Ao14 t168.length co14)) (fun _ h_ => h_.1))))) (Kd.R_lt (by (with_reducible repeat (first | apply Kd.R_alloc | apply Kd.R_drewN | apply Kd.R_drew)); exact (Kd.R_mono (Kd.R_far (p := ⟨gb172, 1, none⟩) (Kd.R_far (p := ⟨gb172, 0, none⟩) (Kd.R_types HO170.out BK172.out (by decide)) (fun _ hk => hk.2) (.int .i64 t167)) (fun _ hk => hk.2) (.slice Ao14 t168.length co14)) (fun _ h_ => h_.1))))) (below_size (bW))); have n3_ := Aside0.mk (blk_below (g := gb172) (o := .cells #[.int .i64 t167, .slice Ao14 t168.length co14] 24 (0, 0)) (by (with_reducible repeat (first | refine blk_drewN ?_ _ | refine blk_drew ?_ | refine blk_alloc ?_ _)); refine blk_put (cs := #[.int .i64 t167, .slice none 0 0]) ?_ 1 _ rfl; (with_reducible repeat (first | refine blk_drewN ?_ _ | refine blk_drew ?_ | refine blk_alloc ?_ _)); refine blk_put (cs := #[.int .i64 0, .slice none 0 0]) ?_ 0 _ rfl; exact bP BK172.out) hb); have n4_ := Aside0.mk (below_step (bW) hb); clear HO166; clear HO170; clear BK172; clear HB; have HO166 := n0_; have HO170 := n1_; have HO175 := n2_; have BK172 := n3_; have HB := n4_; clear n0_ n1_ n2_ n3_ n4_; (try clear hb); (try clear hb2); (try clear hk); (try clear hi); (try clear ho0); obtain ⟨Ao16, co16, eo16⟩ := Kd.R_slice HO175.out; subst eo16) | ((with_reducible refine gate_callee (f := 10) rfl ?_); refine goesS (some 30) Try.func10 #[.int .i64 a0, .slice Ao16 t173.length co16] ?_; (with_reducible refine (impl_AlphabetOfPlaces.calls k a0 _ _ t173 t176 t177 t180 _ ?side1 ?side2 A7.out).mono ?_); (case side1 => exact cP ((Kd.R_reads' HO175.out).2.2)); (case side2 => exact (Kd.R_reads' HO175.out).2.1); rintro e w17 ⟨v178, rfl, ho0, hb⟩; refine ⟨_, rfl, ?_⟩; have n0_ := Aside0.mk (Kd.R_elder' (rP HO166.out) (Kd.R_base ho0) hb); have n1_ := Aside0.mk (Kd.R_elder' (rP HO170.out) (Kd.R_base ho0) hb); have n2_ := Aside0.mk (Kd.R_elder' (rP HO175.out) (Kd.R_base ho0) hb); have n3_ := Aside0.mk (Kd.R_lower (Kd.R_new' (Kd.R_new' (Kd.R_new' ho0 (Kd.R_lt (rP HO166.out))) (Kd.R_lt (rP HO170.out))) (Kd.R_lt (rP HO175.out))) (below_size (bW))); have n4_ := Aside0.mk (blkB BK172.out hb); have n5_ := Aside0.mk (below_step (bW) hb); clear HO166; clear HO170; clear HO175; clear BK172; clear HB; have HO166 := n0_; have HO170 := n1_; have HO175 := n2_; have HO179 := n3_; have BK172 := n4_; have HB := n5_; clear n0_ n1_ n2_ n3_ n4_ n5_; (try clear hb); (try clear hb2); (try clear hk); (try clear hi); (try clear ho0)) | ((with_reducible refine gate_dst (N := 8) rfl ?_); refine boxS (N := 8) (cs := #[.int .i64 0, .slice none 0 0]) (t := 24) ?_; intro gb181 hg w18 hbox hb; have n0_ := Aside0.mk (Kd.R_below (rP HO166.out) hb); have n1_ := Aside0.mk (Kd.R_below (rP HO170.out) hb); have n2_ := Aside0.mk (Kd.R_below (rP HO175.out) hb); have n3_ := Aside0.mk (Kd.R_below (rP HO179.out) hb); have n4_ := Aside0.mk (blkB BK172.out hb); have n5_ := Aside0.mk (below_step (bW) hb); have n6_ := Aside0.mk (hbox); have n7_ := geW (w := w) hg; have n8_ := geW (w := w) hg; have n9_ := Aside0.mk ((by rw [hg]; exact Nat.ne_of_lt (blk_lt (g := gb172) (o := .cells #[.int .i64 t167, .slice Ao14 t168.length co14] 24 (0, 0)) (bP BK172.out)) : gb172 ≠ gb181)); have n10_ := Aside0.mk ((by rw [hg]; exact Nat.ne_of_gt (blk_lt (g := gb172) (o := .cells #[.int .i64 t167, .slice Ao14 t168.length co14] 24 (0, 0)) (bP BK172.out)) : gb181 ≠ gb172)); clear HO166; clear HO170; clear HO175; clear HO179; clear BK172; clear HB; have HO166 := n0_; have HO170 := n1_; have HO175 := n2_; have HO179 := n3_; have BK172 := n4_; have HB := n5_; have BK181 := n6_; have GW181 := n7_; have GE181 := n8_; have NB172_181 := n9_; have NB181_172 := n10_; clear n0_ n1_ n2_ n3_ n4_ n5_ n6_ n7_ n8_ n9_ n10_; clear hb hbox hg; have hnb19 := NB181_172.out; have hnc19 := NB172_181.out; obtain ⟨hcz20_0, hcz20_1⟩ := cells2 BK181.out; obtain ⟨hfz20_0, hfz20_1⟩ := frz2 BK181.out; obtain ⟨Ao21, co21, eo21⟩ := Kd.R_slice HO179.out; subst eo21))
  (try simp only [Act.put, List.setIfInBounds_toArray, List.set_cons_zero, List.set_cons_succ])
  go_cut [41] (fun v41 wc => ∃ (kq : Nat) (x41_7 : Bool), v41 = .bool x41_7 ∧ Aside0 (laws_FnExactAlphabetOfPlaces.j0 kq a0 l1 t171 t173 t180 x41_7 t167 t168 t176 t177 = some r) ∧ Aside0 (kq ≤ k) ∧ Aside0 (Kd.R (Kd.int .i64) 2 wc w.heap.size (fun k_ => some k_ ≠ ((.slice Ao14 t168.length co14) : Value).ownBlock ∧ some k_ ≠ ((.slice Ao21 t177.length co21) : Value).ownBlock) (.slice Ao16 t173.length co16) t173) ∧ Aside0 (Kd.R (Kd.int .i64) 2 wc w.heap.size (fun k_ => some k_ ≠ ((.slice Ao16 t173.length co16) : Value).ownBlock ∧ some k_ ≠ ((.slice Ao21 t177.length co21) : Value).ownBlock) (.slice Ao14 t168.length co14) t168) ∧ Aside0 (Kd.R (Kd.int .i64) 2 wc w.heap.size (fun k_ => some k_ ≠ ((.slice Ao16 t173.length co16) : Value).ownBlock ∧ some k_ ≠ ((.slice Ao14 t168.length co14) : Value).ownBlock) (.slice Ao21 t177.length co21) t177) ∧ Aside0 (wc.heap[gb172]? = some (.cells #[.int .i64 t167, (.slice Ao14 t168.length co14)] 24 (0, 0))) ∧ Aside0 (wc.heap[gb181]? = some (.cells #[.int .i64 t176, (.slice Ao21 t177.length co21)] 24 (0, 0))) ∧ Aside0 (Below w.heap.size w wc))
  case first =>
   have H := HC8.out
   clear HC8
   replace H := Option.bind_eq_some_iff.mp H
   obtain ⟨t182, A220, H⟩ := H
   replace H : (if t182 = true then (laws_FnExactAlphabetOfPlaces.j0 k a0 l1 t171 t173 t180 (t180 != t171) t167 t168 t176 t177) else (laws_FnExactAlphabetOfPlaces.j0 k a0 l1 t171 t173 t180 true t167 t168 t176 t177)) = some r := H
   have A22 := Aside0.mk A220
   clear A220
   by_cases c23 : t182 = true
   ·subst c23
    have H1 : (laws_FnExactAlphabetOfPlaces.j0 k a0 l1 t171 t173 t180 (t180 != t171) t167 t168 t176 t177) = some r := by rw [if_pos rfl] at H; exact H
    clear H
    have H := H1
    clear H1
    have H' := Aside0.mk H
    clear H
    have hnb24 := NB181_172.out
    have hnc24 := NB172_181.out
    have hcz25_0 : w18.cell? ⟨gb181, 0, none⟩ = some (.int .i64 0) := (blk_cell BK181.out 0).trans rfl
    have hcz25_1 : w18.cell? ⟨gb181, 1, none⟩ = some (.slice none 0 0) := (blk_cell BK181.out 1).trans rfl
    have hfz25_0 := blk_frozen BK181.out 0
    have hfz25_1 := blk_frozen BK181.out 1
    have hcz26_0 : w18.cell? ⟨gb172, 0, none⟩ = some (.int .i64 t167) := (blk_cell BK172.out 0).trans rfl
    have hcz26_1 : w18.cell? ⟨gb172, 1, none⟩ = some (.slice Ao14 t168.length co14) := (blk_cell BK172.out 1).trans rfl
    have hfz26_0 := blk_frozen BK172.out 0
    have hfz26_1 := blk_frozen BK172.out 1
    go_wp2_with (first | ((with_reducible refine gate_callee (f := 11) rfl ?_); refine goesS (some 35) Try.func11 #[.agg #[.int .i64 t176, .slice Ao21 t177.length co21], .agg #[.int .i64 t167, .slice Ao14 t168.length co14]] ?_; (with_reducible refine (laws_eqAlphabet.calls k t176 _ _ t177 t167 _ _ t168 true _ ?side1 ?side2 ?side3 ?side4 A22.out).mono ?_); (case side1 => refine (Kd.R_reads' (e := 2) (base := w.heap.size) (ok := fun k_ => (((True ∧ some k_ ≠ (.slice Ao10 t164.length co10 : Value).ownBlock) ∧ some k_ ≠ (.slice Ao14 t168.length co14 : Value).ownBlock) ∧ some k_ ≠ (.slice Ao16 t173.length co16 : Value).ownBlock)) (n := t177.length) (c := co21) ?_).2.2; exact (by (with_reducible repeat (first | apply Kd.R_alloc | apply Kd.R_drewN | apply Kd.R_drew)); exact (Kd.R_mono (Kd.R_far (p := ⟨gb181, 1, none⟩) (Kd.R_far (p := ⟨gb181, 0, none⟩) (Kd.R_types HO179.out BK181.out (by decide)) (fun _ hk => hk.2) (.int .i64 t176)) (fun _ hk => hk.2) (.slice Ao21 t177.length co21)) (fun _ h_ => h_.1)))); (case side2 => exact (Kd.R_reads' HO179.out).2.1); (case side3 => refine (Kd.R_reads' (e := 2) (base := w.heap.size) (ok := fun k_ => (((True ∧ some k_ ≠ (.slice Ao10 t164.length co10 : Value).ownBlock) ∧ some k_ ≠ (.slice Ao16 t173.length co16 : Value).ownBlock) ∧ some k_ ≠ (.slice Ao21 t177.length co21 : Value).ownBlock)) (n := t168.length) (c := co14) ?_).2.2; exact (by (with_reducible repeat (first | apply Kd.R_alloc | apply Kd.R_drewN | apply Kd.R_drew)); exact (Kd.R_mono (Kd.R_far (p := ⟨gb181, 1, none⟩) (Kd.R_far (p := ⟨gb181, 0, none⟩) (Kd.R_types HO170.out BK181.out (by decide)) (fun _ hk => hk.2) (.int .i64 t176)) (fun _ hk => hk.2) (.slice Ao21 t177.length co21)) (fun _ h_ => h_.1)))); (case side4 => exact (Kd.R_reads' HO170.out).2.1); rintro e w27 ⟨rfl, hb⟩; refine ⟨_, rfl, ?_⟩; have n0_ := Aside0.mk (Kd.R_below (by (with_reducible repeat (first | apply Kd.R_alloc | apply Kd.R_drewN | apply Kd.R_drew)); exact (Kd.R_mono (Kd.R_far (p := ⟨gb181, 1, none⟩) (Kd.R_far (p := ⟨gb181, 0, none⟩) (Kd.R_types HO166.out BK181.out (by decide)) (fun _ hk => hk.2) (.int .i64 t176)) (fun _ hk => hk.2) (.slice Ao21 t177.length co21)) (fun _ h_ => h_.1))) hb); have n1_ := Aside0.mk (Kd.R_below (by (with_reducible repeat (first | apply Kd.R_alloc | apply Kd.R_drewN | apply Kd.R_drew)); exact (Kd.R_mono (Kd.R_far (p := ⟨gb181, 1, none⟩) (Kd.R_far (p := ⟨gb181, 0, none⟩) (Kd.R_types HO170.out BK181.out (by decide)) (fun _ hk => hk.2) (.int .i64 t176)) (fun _ hk => hk.2) (.slice Ao21 t177.length co21)) (fun _ h_ => h_.1))) hb); have n2_ := Aside0.mk (Kd.R_below (by (with_reducible repeat (first | apply Kd.R_alloc | apply Kd.R_drewN | apply Kd.R_drew)); exact (Kd.R_mono (Kd.R_far (p := ⟨gb181, 1, none⟩) (Kd.R_far (p := ⟨gb181, 0, none⟩) (Kd.R_types HO175.out BK181.out (by decide)) (fun _ hk => hk.2) (.int .i64 t176)) (fun _ hk => hk.2) (.slice Ao21 t177.length co21)) (fun _ h_ => h_.1))) hb); have n3_ := Aside0.mk (Kd.R_below (by (with_reducible repeat (first | apply Kd.R_alloc | apply Kd.R_drewN | apply Kd.R_drew)); exact (Kd.R_mono (Kd.R_far (p := ⟨gb181, 1, none⟩) (Kd.R_far (p := ⟨gb181, 0, none⟩) (Kd.R_types HO179.out BK181.out (by decide)) (fun _ hk => hk.2) (.int .i64 t176)) (fun _ hk => hk.2) (.slice Ao21 t177.length co21)) (fun _ h_ => h_.1))) hb); have n4_ := Aside0.mk (blk_below (g := gb172) (o := .cells #[.int .i64 t167, .slice Ao14 t168.length co14] 24 (0, 0)) (by (with_reducible repeat (first | refine blk_drewN ?_ _ | refine blk_drew ?_ | refine blk_alloc ?_ _)); refine blk_far ?_ NB172_181.out _; (with_reducible repeat (first | refine blk_drewN ?_ _ | refine blk_drew ?_ | refine blk_alloc ?_ _)); refine blk_far ?_ NB172_181.out _; exact bP BK172.out) hb); have n5_ := Aside0.mk (blk_below (g := gb181) (o := .cells #[.int .i64 t176, .slice Ao21 t177.length co21] 24 (0, 0)) (by (with_reducible repeat (first | refine blk_drewN ?_ _ | refine blk_drew ?_ | refine blk_alloc ?_ _)); refine blk_put (cs := #[.int .i64 t176, .slice none 0 0]) ?_ 1 _ rfl; (with_reducible repeat (first | refine blk_drewN ?_ _ | refine blk_drew ?_ | refine blk_alloc ?_ _)); refine blk_put (cs := #[.int .i64 0, .slice none 0 0]) ?_ 0 _ rfl; exact bP BK181.out) hb); have n6_ := Aside0.mk (below_step (bW) hb); clear HO166; clear HO170; clear HO175; clear HO179; clear BK172; clear BK181; clear HB; have HO166 := n0_; have HO170 := n1_; have HO175 := n2_; have HO179 := n3_; have BK172 := n4_; have BK181 := n5_; have HB := n6_; clear n0_ n1_ n2_ n3_ n4_ n5_ n6_; (try clear hb); (try clear hb2); (try clear hk); (try clear hi)))
    go_meet
    case rel => exact ⟨_, ((t180 != t171)), (eW), H', ⟨by first | omega | exact Nat.le_refl _⟩, ⟨by (with_reducible repeat (first | apply Kd.R_alloc | apply Kd.R_drewN | apply Kd.R_drew)); exact Kd.R_mono HO175.out (fun _ hk => ⟨hk.1.2, hk.2⟩)⟩, ⟨by (with_reducible repeat (first | apply Kd.R_alloc | apply Kd.R_drewN | apply Kd.R_drew)); exact Kd.R_mono HO170.out (fun _ hk => ⟨hk.1.2, hk.2⟩)⟩, ⟨by (with_reducible repeat (first | apply Kd.R_alloc | apply Kd.R_drewN | apply Kd.R_drew)); exact Kd.R_mono HO179.out (fun _ hk => ⟨hk.2, hk.1.2⟩)⟩, ⟨(bP BK172.out)⟩, ⟨(bP BK181.out)⟩, ⟨bW⟩⟩
   ·replace c23 := Bool.eq_false_iff.mpr c23
    subst c23
    have H1 : (laws_FnExactAlphabetOfPlaces.j0 k a0 l1 t171 t173 t180 true t167 t168 t176 t177) = some r := by rw [if_neg (show ¬ (false = true) by decide)] at H; exact H
    clear H
    have H := H1
    clear H1
    have H' := Aside0.mk H
    clear H
    have hnb28 := NB181_172.out
    have hnc28 := NB172_181.out
    have hcz29_0 : w18.cell? ⟨gb181, 0, none⟩ = some (.int .i64 0) := (blk_cell BK181.out 0).trans rfl
    have hcz29_1 : w18.cell? ⟨gb181, 1, none⟩ = some (.slice none 0 0) := (blk_cell BK181.out 1).trans rfl
    have hfz29_0 := blk_frozen BK181.out 0
    have hfz29_1 := blk_frozen BK181.out 1
    have hcz30_0 : w18.cell? ⟨gb172, 0, none⟩ = some (.int .i64 t167) := (blk_cell BK172.out 0).trans rfl
    have hcz30_1 : w18.cell? ⟨gb172, 1, none⟩ = some (.slice Ao14 t168.length co14) := (blk_cell BK172.out 1).trans rfl
    have hfz30_0 := blk_frozen BK172.out 0
    have hfz30_1 := blk_frozen BK172.out 1
    go_wp2_with (first | ((with_reducible refine gate_callee (f := 11) rfl ?_); refine goesS (some 35) Try.func11 #[.agg #[.int .i64 t176, .slice Ao21 t177.length co21], .agg #[.int .i64 t167, .slice Ao14 t168.length co14]] ?_; (with_reducible refine (laws_eqAlphabet.calls k t176 _ _ t177 t167 _ _ t168 false _ ?side1 ?side2 ?side3 ?side4 A22.out).mono ?_); (case side1 => refine (Kd.R_reads' (e := 2) (base := w.heap.size) (ok := fun k_ => (((True ∧ some k_ ≠ (.slice Ao10 t164.length co10 : Value).ownBlock) ∧ some k_ ≠ (.slice Ao14 t168.length co14 : Value).ownBlock) ∧ some k_ ≠ (.slice Ao16 t173.length co16 : Value).ownBlock)) (n := t177.length) (c := co21) ?_).2.2; exact (by (with_reducible repeat (first | apply Kd.R_alloc | apply Kd.R_drewN | apply Kd.R_drew)); exact (Kd.R_mono (Kd.R_far (p := ⟨gb181, 1, none⟩) (Kd.R_far (p := ⟨gb181, 0, none⟩) (Kd.R_types HO179.out BK181.out (by decide)) (fun _ hk => hk.2) (.int .i64 t176)) (fun _ hk => hk.2) (.slice Ao21 t177.length co21)) (fun _ h_ => h_.1)))); (case side2 => exact (Kd.R_reads' HO179.out).2.1); (case side3 => refine (Kd.R_reads' (e := 2) (base := w.heap.size) (ok := fun k_ => (((True ∧ some k_ ≠ (.slice Ao10 t164.length co10 : Value).ownBlock) ∧ some k_ ≠ (.slice Ao16 t173.length co16 : Value).ownBlock) ∧ some k_ ≠ (.slice Ao21 t177.length co21 : Value).ownBlock)) (n := t168.length) (c := co14) ?_).2.2; exact (by (with_reducible repeat (first | apply Kd.R_alloc | apply Kd.R_drewN | apply Kd.R_drew)); exact (Kd.R_mono (Kd.R_far (p := ⟨gb181, 1, none⟩) (Kd.R_far (p := ⟨gb181, 0, none⟩) (Kd.R_types HO170.out BK181.out (by decide)) (fun _ hk => hk.2) (.int .i64 t176)) (fun _ hk => hk.2) (.slice Ao21 t177.length co21)) (fun _ h_ => h_.1)))); (case side4 => exact (Kd.R_reads' HO170.out).2.1); rintro e w31 ⟨rfl, hb⟩; refine ⟨_, rfl, ?_⟩; have n0_ := Aside0.mk (Kd.R_below (by (with_reducible repeat (first | apply Kd.R_alloc | apply Kd.R_drewN | apply Kd.R_drew)); exact (Kd.R_mono (Kd.R_far (p := ⟨gb181, 1, none⟩) (Kd.R_far (p := ⟨gb181, 0, none⟩) (Kd.R_types HO166.out BK181.out (by decide)) (fun _ hk => hk.2) (.int .i64 t176)) (fun _ hk => hk.2) (.slice Ao21 t177.length co21)) (fun _ h_ => h_.1))) hb); have n1_ := Aside0.mk (Kd.R_below (by (with_reducible repeat (first | apply Kd.R_alloc | apply Kd.R_drewN | apply Kd.R_drew)); exact (Kd.R_mono (Kd.R_far (p := ⟨gb181, 1, none⟩) (Kd.R_far (p := ⟨gb181, 0, none⟩) (Kd.R_types HO170.out BK181.out (by decide)) (fun _ hk => hk.2) (.int .i64 t176)) (fun _ hk => hk.2) (.slice Ao21 t177.length co21)) (fun _ h_ => h_.1))) hb); have n2_ := Aside0.mk (Kd.R_below (by (with_reducible repeat (first | apply Kd.R_alloc | apply Kd.R_drewN | apply Kd.R_drew)); exact (Kd.R_mono (Kd.R_far (p := ⟨gb181, 1, none⟩) (Kd.R_far (p := ⟨gb181, 0, none⟩) (Kd.R_types HO175.out BK181.out (by decide)) (fun _ hk => hk.2) (.int .i64 t176)) (fun _ hk => hk.2) (.slice Ao21 t177.length co21)) (fun _ h_ => h_.1))) hb); have n3_ := Aside0.mk (Kd.R_below (by (with_reducible repeat (first | apply Kd.R_alloc | apply Kd.R_drewN | apply Kd.R_drew)); exact (Kd.R_mono (Kd.R_far (p := ⟨gb181, 1, none⟩) (Kd.R_far (p := ⟨gb181, 0, none⟩) (Kd.R_types HO179.out BK181.out (by decide)) (fun _ hk => hk.2) (.int .i64 t176)) (fun _ hk => hk.2) (.slice Ao21 t177.length co21)) (fun _ h_ => h_.1))) hb); have n4_ := Aside0.mk (blk_below (g := gb172) (o := .cells #[.int .i64 t167, .slice Ao14 t168.length co14] 24 (0, 0)) (by (with_reducible repeat (first | refine blk_drewN ?_ _ | refine blk_drew ?_ | refine blk_alloc ?_ _)); refine blk_far ?_ NB172_181.out _; (with_reducible repeat (first | refine blk_drewN ?_ _ | refine blk_drew ?_ | refine blk_alloc ?_ _)); refine blk_far ?_ NB172_181.out _; exact bP BK172.out) hb); have n5_ := Aside0.mk (blk_below (g := gb181) (o := .cells #[.int .i64 t176, .slice Ao21 t177.length co21] 24 (0, 0)) (by (with_reducible repeat (first | refine blk_drewN ?_ _ | refine blk_drew ?_ | refine blk_alloc ?_ _)); refine blk_put (cs := #[.int .i64 t176, .slice none 0 0]) ?_ 1 _ rfl; (with_reducible repeat (first | refine blk_drewN ?_ _ | refine blk_drew ?_ | refine blk_alloc ?_ _)); refine blk_put (cs := #[.int .i64 0, .slice none 0 0]) ?_ 0 _ rfl; exact bP BK181.out) hb); have n6_ := Aside0.mk (below_step (bW) hb); clear HO166; clear HO170; clear HO175; clear HO179; clear BK172; clear BK181; clear HB; have HO166 := n0_; have HO170 := n1_; have HO175 := n2_; have HO179 := n3_; have BK172 := n4_; have BK181 := n5_; have HB := n6_; clear n0_ n1_ n2_ n3_ n4_ n5_ n6_; (try clear hb); (try clear hb2); (try clear hk); (try clear hi)))
    go_meet
    case rel => exact ⟨_, (true), (eW), H', ⟨by first | omega | exact Nat.le_refl _⟩, ⟨by (with_reducible repeat (first | apply Kd.R_alloc | apply Kd.R_drewN | apply Kd.R_drew)); exact Kd.R_mono HO175.out (fun _ hk => ⟨hk.1.2, hk.2⟩)⟩, ⟨by (with_reducible repeat (first | apply Kd.R_alloc | apply Kd.R_drewN | apply Kd.R_drew)); exact Kd.R_mono HO170.out (fun _ hk => ⟨hk.1.2, hk.2⟩)⟩, ⟨by (with_reducible repeat (first | apply Kd.R_alloc | apply Kd.R_drewN | apply Kd.R_drew)); exact Kd.R_mono HO179.out (fun _ hk => ⟨hk.2, hk.1.2⟩)⟩, ⟨(bP BK172.out)⟩, ⟨(bP BK181.out)⟩, ⟨bW⟩⟩
  case rest =>
   clear HC8
   try clear c1
   try clear c2
   try clear p2
   try clear c3
   try clear c3b0
   try clear c3b1
   try clear c8
   try clear c9
   try clear c10
   try clear c11
   try clear c19
   try clear c23
   try clear c24
   try clear c28
   try clear hcz13_0
   try clear hcz13_1
   try clear hcz20_0
   try clear hcz20_1
   try clear hcz25_0
   try clear hcz25_1
   try clear hcz26_0
   try clear hcz26_1
   try clear hcz29_0
   try clear hcz29_1
   try clear hcz30_0
   try clear hcz30_1
   try clear hfz13_0
   try clear hfz13_1
   try clear hfz20_0
   try clear hfz20_1
   try clear hfz25_0
   try clear hfz25_1
   try clear hfz26_0
   try clear hfz26_1
   try clear hfz29_0
   try clear hfz29_1
   try clear hfz30_0
   try clear hfz30_1
   obtain ⟨kq, x41_7, rfl, HA, HJ7, HO_7, HO_173001, HO_182001, BK172, BK181, HB⟩ := hcut
   cases kq with
   | zero => exact absurd HA.out (by simp [laws_FnExactAlphabetOfPlaces.j0])
   | succ kj7 =>
    have H := HA.out
    clear HA
    simp only [laws_FnExactAlphabetOfPlaces.j0] at H
    by_cases c32 : x41_7 = true
    ·subst c32
     have H1 : (some false) = some r := by rw [if_pos rfl] at H; exact H
     clear H
     have H := H1
     clear H1
     exact absurd (Option.some.inj H) (by rw [HT_.out]; decide)
    ·replace c32 := Bool.eq_false_iff.mpr c32
     subst c32
     have H1 : ((laws_toInt64S.f kj7 l1).bind fun t183 => ((laws_eqInt64S.f kj7 t173 t183).bind fun t186 => (if t186 = true then ((laws_markInt64S.f kj7 t173 1).bind fun bt187 => (if bt187.1 < 0 then (laws_FnExactAlphabetOfPlaces.j1 kj7 a0 l1 t171 true t167 t168 t176 t177) else ((laws_eqAlphabet.f kj7 t176 t177 t167 t168).bind fun t189 => (if t189 = true then (laws_FnExactAlphabetOfPlaces.j1 kj7 a0 l1 t171 (t180 != t171) t167 t168 t176 t177) else (laws_FnExactAlphabetOfPlaces.j1 kj7 a0 l1 t171 true t167 t168 t176 t177))))) else (some false)))) = some r := by rw [if_neg (show ¬ (false = true) by decide)] at H; exact H
     clear H
     have H := H1
     clear H1
     replace H := Option.bind_eq_some_iff.mp H
     obtain ⟨t183, A330, H⟩ := H
     replace H : ((laws_eqInt64S.f kj7 t173 t183).bind fun t186 => (if t186 = true then ((laws_markInt64S.f kj7 t173 1).bind fun bt187 => (if bt187.1 < 0 then (laws_FnExactAlphabetOfPlaces.j1 kj7 a0 l1 t171 true t167 t168 t176 t177) else ((laws_eqAlphabet.f kj7 t176 t177 t167 t168).bind fun t189 => (if t189 = true then (laws_FnExactAlphabetOfPlaces.j1 kj7 a0 l1 t171 (t180 != t171) t167 t168 t176 t177) else (laws_FnExactAlphabetOfPlaces.j1 kj7 a0 l1 t171 true t167 t168 t176 t177))))) else (some false))) = some r := H
     have A33 := Aside0.mk A330
     clear A330
     replace H := Option.bind_eq_some_iff.mp H
     obtain ⟨t186, A340, H⟩ := H
     replace H : (if t186 = true then ((laws_markInt64S.f kj7 t173 1).bind fun bt187 => (if bt187.1 < 0 then (laws_FnExactAlphabetOfPlaces.j1 kj7 a0 l1 t171 true t167 t168 t176 t177) else ((laws_eqAlphabet.f kj7 t176 t177 t167 t168).bind fun t189 => (if t189 = true then (laws_FnExactAlphabetOfPlaces.j1 kj7 a0 l1 t171 (t180 != t171) t167 t168 t176 t177) else (laws_FnExactAlphabetOfPlaces.j1 kj7 a0 l1 t171 true t167 t168 t176 t177))))) else (some false)) = some r := H
     have A34 := Aside0.mk A340
     clear A340
     by_cases c35 : t186 = true
     ·subst c35
      have H1 : ((laws_markInt64S.f kj7 t173 1).bind fun bt187 => (if bt187.1 < 0 then (laws_FnExactAlphabetOfPlaces.j1 kj7 a0 l1 t171 true t167 t168 t176 t177) else ((laws_eqAlphabet.f kj7 t176 t177 t167 t168).bind fun t189 => (if t189 = true then (laws_FnExactAlphabetOfPlaces.j1 kj7 a0 l1 t171 (t180 != t171) t167 t168 t176 t177) else (laws_FnExactAlphabetOfPlaces.j1 kj7 a0 l1 t171 true t167 t168 t176 t177))))) = some r := by rw [if_pos rfl] at H; exact H
      clear H
      have H := H1
      clear H1
      replace H := Option.bind_eq_some_iff.mp H
      obtain ⟨⟨t187, t188⟩, A360, H⟩ := H
      replace H : (if t187 < 0 then (laws_FnExactAlphabetOfPlaces.j1 kj7 a0 l1 t171 true t167 t168 t176 t177) else ((laws_eqAlphabet.f kj7 t176 t177 t167 t168).bind fun t189 => (if t189 = true then (laws_FnExactAlphabetOfPlaces.j1 kj7 a0 l1 t171 (t180 != t171) t167 t168 t176 t177) else (laws_FnExactAlphabetOfPlaces.j1 kj7 a0 l1 t171 true t167 t168 t176 t177)))) = some r := H
      have A36 := Aside0.mk A360
      clear A360
      have HC37 := Aside0.mk H
      clear H
      go_upto_region 12 with (first | ((with_reducible refine gate_callee (f := 9) rfl ?_); refine goesS (some 44) Try.func9 #[.slice A1 l1.length c1] ?_; (with_reducible refine (laws_toInt64S.calls kj7 _ _ l1 t183 _ ?side1 ?side2 A33.out).mono ?_); (case side1 => exact cP (Kd.C_below HR1.out HB.out)); (case side2 => exact HC1.out); rintro e w38 ⟨v184, rfl, ho0, hb⟩; refine ⟨_, rfl, ?_⟩; have n0_ := Aside0.mk (Kd.R_elder' (rP HO_7.out) (Kd.R_base ho0) hb); have n1_ := Aside0.mk (Kd.R_elder' (rP HO_173001.out) (Kd.R_base ho0) hb); have n2_ := Aside0.mk (Kd.R_elder' (rP HO_182001.out) (Kd.R_base ho0) hb); have n3_ := Aside0.mk (Kd.R_lower (Kd.R_new' (Kd.R_new' (Kd.R_new' ho0 (Kd.R_lt (rP HO_7.out))) (Kd.R_lt (rP HO_173001.out))) (Kd.R_lt (rP HO_182001.out))) (below_size (bW))); have n4_ := Aside0.mk (blkB BK172.out hb); have n5_ := Aside0.mk (blkB BK181.out hb); have n6_ := Aside0.mk (below_step (bW) hb); clear HO_7; clear HO_173001; clear HO_182001; clear BK172; clear BK181; clear HB; have HO_7 := n0_; have HO_173001 := n1_; have HO_182001 := n2_; have HO185 := n3_; have BK172 := n4_; have BK181 := n5_; have HB := n6_; clear n0_ n1_ n2_ n3_ n4_ n5_ n6_; (try clear hb); (try clear hb2); (try clear hk); (try clear hi); (try clear ho0); obtain ⟨Ao39, co39, eo39⟩ := Kd.R_slice HO185.out; subst eo39) | ((with_reducible refine gate_callee (f := 12) rfl ?_); refine goesS (some 45) Try.func12 #[.slice Ao16 t173.length co16, .slice Ao39 t183.length co39] ?_; (with_reducible refine (laws_eqInt64S.calls kj7 _ _ t173 _ _ t183 true _ ?side1 ?side2 ?side3 ?side4 A34.out).mono ?_); (case side1 => exact cP ((Kd.R_reads' HO_7.out).2.2)); (case side2 => exact (Kd.R_reads' HO_7.out).2.1); (case side3 => exact cP ((Kd.R_reads' HO185.out).2.2)); (case side4 => exact (Kd.R_reads' HO185.out).2.1); rintro e w' ⟨rfl, ⟨nd, rfl⟩⟩; refine ⟨_, rfl, ?_⟩) | ((with_reducible refine gate_callee (f := 13) rfl ?_); refine goesS (some 49) Try.func13 #[.slice Ao16 t173.length co16, .int .i64 1] ?_; (with_reducible refine (laws_markInt64S.calls kj7 (fun k_ => some k_ = (.slice Ao16 t173.length co16 : Value).ownBlock) (.slice Ao16 t173.length co16) t173 1 t187 t188 w _ ?side1 ?side2 A36.out).mono ?_); (case side1 => repeat (first | (with_reducible first | exact HB.out | apply below_alloc | apply pw_below_drewN | apply below_drew1 | refine below_set ?_ GE172.out | refine below_set ?_ GE181.out) | exact HB.out)); (case side2 => exact Kd.R_tight rfl HO_7.out); rintro e w40 ⟨rfl, hy0, hb, hkp⟩; refine ⟨_, rfl, ?_⟩; have n0_ := Aside0.mk (Kd.R_reok rfl hy0 (fun k_ e_ => HO_7.out.1 k_ e_)); have n1_ := Aside0.mk (Kd.R_mono (ok' := fun k_ => some k_ ≠ (.slice Ao16 t173.length co16 : Value).ownBlock ∧ some k_ ≠ (.slice Ao21 t177.length co21 : Value).ownBlock ∧ some k_ ≠ (.slice Ao39 t183.length co39 : Value).ownBlock) (Kd.R_keptB (HO_173001.out) hkp (fun k_ hk_ hs_ => (hk_.1.1) hs_)) (fun k_ hk_ => ⟨hk_.1.1.1, hk_.1.1.2, hk_.1.2⟩)); have n2_ := Aside0.mk (Kd.R_mono (ok' := fun k_ => some k_ ≠ (.slice Ao16 t173.length co16 : Value).ownBlock ∧ some k_ ≠ (.slice Ao14 t168.length co14 : Value).ownBlock ∧ some k_ ≠ (.slice Ao39 t183.length co39 : Value).ownBlock) (Kd.R_keptB (HO_182001.out) hkp (fun k_ hk_ hs_ => (hk_.1.1) hs_)) (fun k_ hk_ => ⟨hk_.1.1.1, hk_.1.1.2, hk_.1.2⟩)); have n3_ := Aside0.mk (blk_kept (bP BK172.out) hkp (fun hs_ => (fun e_ => (Kd.R_ne HO_7.out BK172.out (by decide)) e_) hs_)); have n4_ := Aside0.mk (blk_kept (bP BK181.out) hkp (fun hs_ => (fun e_ => (Kd.R_ne HO_7.out BK181.out (by decide)) e_) hs_)); have n5_ := Aside0.mk (Kd.R_mono (ok' := fun k_ => some k_ ≠ (.slice Ao16 t173.length co16 : Value).ownBlock ∧ some k_ ≠ (.slice Ao14 t168.length co14 : Value).ownBlock ∧ some k_ ≠ (.slice Ao21 t177.length co21 : Value).ownBlock) (Kd.R_keptB (HO185.out) hkp (fun k_ hk_ hs_ => (hk_.1.1.2) hs_)) (fun k_ hk_ => ⟨hk_.1.1.1.2, hk_.1.1.2, hk_.1.2⟩)); have n6_ := Aside0.mk (hb); clear HO_7; clear HO_173001; clear HO_182001; clear BK172; clear BK181; clear HO185; clear HB; have HO_7 := n0_; have HO_173001 := n1_; have HO_182001 := n2_; have BK172 := n3_; have BK181 := n4_; have HO185 := n5_; have HB := n6_; clear n0_ n1_ n2_ n3_ n4_ n5_ n6_; (try clear hb); (try clear hkp); (try clear hy0)))
      (try simp only [Act.put, List.setIfInBounds_toArray, List.set_cons_zero, List.set_cons_succ])
      go_cut [62] (fun v62 wc => ∃ (kq : Nat) (x62_36 : Bool), v62 = .bool x62_36 ∧ Aside0 (laws_FnExactAlphabetOfPlaces.j1 kq a0 l1 t171 x62_36 t167 t168 t176 t177 = some r) ∧ Aside0 (kq ≤ kj7) ∧ Aside0 (Kd.R (Kd.int .i64) 2 wc w.heap.size (fun k_ => some k_ ≠ ((.slice Ao21 t177.length co21) : Value).ownBlock) (.slice Ao14 t168.length co14) t168) ∧ Aside0 (Kd.R (Kd.int .i64) 2 wc w.heap.size (fun k_ => some k_ ≠ ((.slice Ao14 t168.length co14) : Value).ownBlock) (.slice Ao21 t177.length co21) t177) ∧ Aside0 (wc.heap[gb172]? = some (.cells #[.int .i64 t167, (.slice Ao14 t168.length co14)] 24 (0, 0))) ∧ Aside0 (wc.heap[gb181]? = some (.cells #[.int .i64 t176, (.slice Ao21 t177.length co21)] 24 (0, 0))) ∧ Aside0 (Below w.heap.size w wc))
      case first =>
       have H := HC37.out
       clear HC37
       by_cases c41 : t187 < 0
       ·rw [if_pos c41] at H
        have c41b0 : decide (t187 < 0) = true := decide_eq_true c41
        clear c41
        (first | rw [c41b0] | (simp only [i64_w, i32_w]; rw [c41b0]) | skip)
        have H' := Aside0.mk H
        clear H
        go_wp2
        go_meet
        case rel => exact ⟨_, (true), (eW), H', ⟨by have := HJ7.out; first | omega | exact Nat.le_refl _⟩, ⟨by (with_reducible repeat (first | apply Kd.R_alloc | apply Kd.R_drewN | apply Kd.R_drew)); exact Kd.R_mono HO_173001.out (fun _ hk => hk.2.1)⟩, ⟨by (with_reducible repeat (first | apply Kd.R_alloc | apply Kd.R_drewN | apply Kd.R_drew)); exact Kd.R_mono HO_182001.out (fun _ hk => hk.2.1)⟩, ⟨(bP BK172.out)⟩, ⟨(bP BK181.out)⟩, ⟨bW⟩⟩
       ·rw [if_neg c41] at H
        have c41b0 : decide (t187 < 0) = false := decide_eq_false c41
        clear c41
        (first | rw [c41b0] | (simp only [i64_w, i32_w]; rw [c41b0]) | skip)
        replace H := Option.bind_eq_some_iff.mp H
        obtain ⟨t189, A420, H⟩ := H
        replace H : (if t189 = true then (laws_FnExactAlphabetOfPlaces.j1 kj7 a0 l1 t171 (t180 != t171) t167 t168 t176 t177) else (laws_FnExactAlphabetOfPlaces.j1 kj7 a0 l1 t171 true t167 t168 t176 t177)) = some r := H
        have A42 := Aside0.mk A420
        clear A420
        by_cases c43 : t189 = true
        ·subst c43
         have H1 : (laws_FnExactAlphabetOfPlaces.j1 kj7 a0 l1 t171 (t180 != t171) t167 t168 t176 t177) = some r := by rw [if_pos rfl] at H; exact H
         clear H
         have H := H1
         clear H1
         have H' := Aside0.mk H
         clear H
         have hnb44 := NB181_172.out
         have hnc44 := NB172_181.out
         have hcz45_0 : w40.cell? ⟨gb181, 0, none⟩ = some (.int .i64 t176) := (blk_cell BK181.out 0).trans rfl
         have hcz45_1 : w40.cell? ⟨gb181, 1, none⟩ = some (.slice Ao21 t177.length co21) := (blk_cell BK181.out 1).trans rfl
         have hfz45_0 := blk_frozen BK181.out 0
         have hfz45_1 := blk_frozen BK181.out 1
         have hcz46_0 : w40.cell? ⟨gb172, 0, none⟩ = some (.int .i64 t167) := (blk_cell BK172.out 0).trans rfl
         have hcz46_1 : w40.cell? ⟨gb172, 1, none⟩ = some (.slice Ao14 t168.length co14) := (blk_cell BK172.out 1).trans rfl
         have hfz46_0 := blk_frozen BK172.out 0
         have hfz46_1 := blk_frozen BK172.out 1
         go_wp2_with (first | (go_at_call 11; (with_reducible refine (laws_eqAlphabet.calls kj7 t176 _ _ t177 t167 _ _ t168 true _ ?side1 ?side2 ?side3 ?side4 A42.out).mono ?_); (case side1 => exact cP ((Kd.R_reads' HO_182001.out).2.2)); (case side2 => exact (Kd.R_reads' HO_182001.out).2.1); (case side3 => exact cP ((Kd.R_reads' HO_173001.out).2.2)); (case side4 => exact (Kd.R_reads' HO_173001.out).2.1); rintro e w47 ⟨rfl, hb⟩; have n0_ := Aside0.mk (Kd.R_below (rP HO_7.out) hb); have n1_ := Aside0.mk (Kd.R_below (rP HO_173001.out) hb); have n2_ := Aside0.mk (Kd.R_below (rP HO_182001.out) hb); have n3_ := Aside0.mk (Kd.R_below (rP HO185.out) hb); have n4_ := Aside0.mk (blkB BK172.out hb); have n5_ := Aside0.mk (blkB BK181.out hb); have n6_ := Aside0.mk (below_step (bW) hb); clear HO_7; clear HO_173001; clear HO_182001; clear HO185; clear BK172; clear BK181; clear HB; have HO_7 := n0_; have HO_173001 := n1_; have HO_182001 := n2_; have HO185 := n3_; have BK172 := n4_; have BK181 := n5_; have HB := n6_; clear n0_ n1_ n2_ n3_ n4_ n5_ n6_; (try clear hb); (try clear hb2); (try clear hk); (try clear hi)))
         go_meet
         case rel => exact ⟨_, ((t180 != t171)), (eW), H', ⟨by have := HJ7.out; first | omega | exact Nat.le_refl _⟩, ⟨by (with_reducible repeat (first | apply Kd.R_alloc | apply Kd.R_drewN | apply Kd.R_drew)); exact Kd.R_mono HO_173001.out (fun _ hk => hk.2.1)⟩, ⟨by (with_reducible repeat (first | apply Kd.R_alloc | apply Kd.R_drewN | apply Kd.R_drew)); exact Kd.R_mono HO_182001.out (fun _ hk => hk.2.1)⟩, ⟨(bP BK172.out)⟩, ⟨(bP BK181.out)⟩, ⟨bW⟩⟩
        ·replace c43 := Bool.eq_false_iff.mpr c43
         subst c43
         have H1 : (laws_FnExactAlphabetOfPlaces.j1 kj7 a0 l1 t171 true t167 t168 t176 t177) = some r := by rw [if_neg (show ¬ (false = true) by decide)] at H; exact H
         clear H
         have H := H1
         clear H1
         have H' := Aside0.mk H
         clear H
         have hnb48 := NB181_172.out
         have hnc48 := NB172_181.out
         have hcz49_0 : w40.cell? ⟨gb181, 0, none⟩ = some (.int .i64 t176) := (blk_cell BK181.out 0).trans rfl
         have hcz49_1 : w40.cell? ⟨gb181, 1, none⟩ = some (.slice Ao21 t177.length co21) := (blk_cell BK181.out 1).trans rfl
         have hfz49_0 := blk_frozen BK181.out 0
         have hfz49_1 := blk_frozen BK181.out 1
         have hcz50_0 : w40.cell? ⟨gb172, 0, none⟩ = some (.int .i64 t167) := (blk_cell BK172.out 0).trans rfl
         have hcz50_1 : w40.cell? ⟨gb172, 1, none⟩ = some (.slice Ao14 t168.length co14) := (blk_cell BK172.out 1).trans rfl
         have hfz50_0 := blk_frozen BK172.out 0
         have hfz50_1 := blk_frozen BK172.out 1
         go_wp2_with (first | (go_at_call 11; (with_reducible refine (laws_eqAlphabet.calls kj7 t176 _ _ t177 t167 _ _ t168 false _ ?side1 ?side2 ?side3 ?side4 A42.out).mono ?_); (case side1 => exact cP ((Kd.R_reads' HO_182001.out).2.2)); (case side2 => exact (Kd.R_reads' HO_182001.out).2.1); (case side3 => exact cP ((Kd.R_reads' HO_173001.out).2.2)); (case side4 => exact (Kd.R_reads' HO_173001.out).2.1); rintro e w51 ⟨rfl, hb⟩; have n0_ := Aside0.mk (Kd.R_below (rP HO_7.out) hb); have n1_ := Aside0.mk (Kd.R_below (rP HO_173001.out) hb); have n2_ := Aside0.mk (Kd.R_below (rP HO_182001.out) hb); have n3_ := Aside0.mk (Kd.R_below (rP HO185.out) hb); have n4_ := Aside0.mk (blkB BK172.out hb); have n5_ := Aside0.mk (blkB BK181.out hb); have n6_ := Aside0.mk (below_step (bW) hb); clear HO_7; clear HO_173001; clear HO_182001; clear HO185; clear BK172; clear BK181; clear HB; have HO_7 := n0_; have HO_173001 := n1_; have HO_182001 := n2_; have HO185 := n3_; have BK172 := n4_; have BK181 := n5_; have HB := n6_; clear n0_ n1_ n2_ n3_ n4_ n5_ n6_; (try clear hb); (try clear hb2); (try clear hk); (try clear hi)))
         go_meet
         case rel => exact ⟨_, (true), (eW), H', ⟨by have := HJ7.out; first | omega | exact Nat.le_refl _⟩, ⟨by (with_reducible repeat (first | apply Kd.R_alloc | apply Kd.R_drewN | apply Kd.R_drew)); exact Kd.R_mono HO_173001.out (fun _ hk => hk.2.1)⟩, ⟨by (with_reducible repeat (first | apply Kd.R_alloc | apply Kd.R_drewN | apply Kd.R_drew)); exact Kd.R_mono HO_182001.out (fun _ hk => hk.2.1)⟩, ⟨(bP BK172.out)⟩, ⟨(bP BK181.out)⟩, ⟨bW⟩⟩
      case rest =>
       clear HC37
       try clear c1
       try clear c2
       try clear p2
       try clear c3
       try clear c3b0
       try clear c3b1
       try clear c4
       try clear c8
       try clear c9
       try clear c10
       try clear c11
       try clear c12
       try clear c13
       try clear c19
       try clear c23
       try clear c24
       try clear c28
       try clear c32
       try clear c35
       try clear c41
       try clear c41b0
       try clear c43
       try clear c44
       try clear c48
       try clear hcz13_0
       try clear hcz13_1
       try clear hcz20_0
       try clear hcz20_1
       try clear hcz25_0
       try clear hcz25_1
       try clear hcz26_0
       try clear hcz26_1
       try clear hcz29_0
       try clear hcz29_1
       try clear hcz30_0
       try clear hcz30_1
       try clear hcz45_0
       try clear hcz45_1
       try clear hcz46_0
       try clear hcz46_1
       try clear hcz49_0
       try clear hcz49_1
       try clear hcz50_0
       try clear hcz50_1
       try clear hfz13_0
       try clear hfz13_1
       try clear hfz20_0
       try clear hfz20_1
       try clear hfz25_0
       try clear hfz25_1
       try clear hfz26_0
       try clear hfz26_1
       try clear hfz29_0
       try clear hfz29_1
       try clear hfz30_0
       try clear hfz30_1
       try clear hfz45_0
       try clear hfz45_1
       try clear hfz46_0
       try clear hfz46_1
       try clear hfz49_0
       try clear hfz49_1
       try clear hfz50_0
       try clear hfz50_1
       try clear p2
       obtain ⟨kq, x62_36, rfl, HA, HJ36, HO_173001, HO_182001, BK172, BK181, HB⟩ := hcut
       cases kq with
       | zero => exact absurd HA.out (by simp [laws_FnExactAlphabetOfPlaces.j1])
       | succ kj36 =>
        have H := HA.out
        clear HA
        simp only [laws_FnExactAlphabetOfPlaces.j1] at H
        by_cases c52 : x62_36 = true
        ·subst c52
         have H1 : (some false) = some r := by rw [if_pos rfl] at H; exact H
         clear H
         have H := H1
         clear H1
         exact absurd (Option.some.inj H) (by rw [HT_.out]; decide)
        ·replace c52 := Bool.eq_false_iff.mpr c52
         subst c52
         have H1 : ((laws_markAlphabet.f kj36 t176 t177 1).bind fun bt190 => ((laws_heldAlphabet.f kj36 t176 bt190.2 1).bind fun t192 => (if t192 < 0 then (some false) else (if t192 = bt190.1 then ((laws_toInt64S.f kj36 l1).bind fun t193 => ((impl_AlphabetOfPlaces.f kj36 a0 t193).bind fun bt196 => ((laws_eqAlphabet.f kj36 bt196.1 bt196.2.1 t167 t168).bind fun t202 => (if t202 = true then (laws_FnExactAlphabetOfPlaces.j2 kj36 bt190.1 (bt196.2.2 != t171) t176 bt190.2) else (laws_FnExactAlphabetOfPlaces.j2 kj36 bt190.1 true t176 bt190.2))))) else (some false))))) = some r := by rw [if_neg (show ¬ (false = true) by decide)] at H; exact H
         clear H
         have H := H1
         clear H1
         replace H := Option.bind_eq_some_iff.mp H
         obtain ⟨⟨t190, t191⟩, A530, H⟩ := H
         replace H : ((laws_heldAlphabet.f kj36 t176 t191 1).bind fun t192 => (if t192 < 0 then (some false) else (if t192 = t190 then ((laws_toInt64S.f kj36 l1).bind fun t193 => ((impl_AlphabetOfPlaces.f kj36 a0 t193).bind fun bt196 => ((laws_eqAlphabet.f kj36 bt196.1 bt196.2.1 t167 t168).bind fun t202 => (if t202 = true then (laws_FnExactAlphabetOfPlaces.j2 kj36 t190 (bt196.2.2 != t171) t176 t191) else (laws_FnExactAlphabetOfPlaces.j2 kj36 t190 true t176 t191))))) else (some false)))) = some r := H
         have A53 := Aside0.mk A530
         clear A530
         replace H := Option.bind_eq_some_iff.mp H
         obtain ⟨t192, A540, H⟩ := H
         replace H : (if t192 < 0 then (some false) else (if t192 = t190 then ((laws_toInt64S.f kj36 l1).bind fun t193 => ((impl_AlphabetOfPlaces.f kj36 a0 t193).bind fun bt196 => ((laws_eqAlphabet.f kj36 bt196.1 bt196.2.1 t167 t168).bind fun t202 => (if t202 = true then (laws_FnExactAlphabetOfPlaces.j2 kj36 t190 (bt196.2.2 != t171) t176 t191) else (laws_FnExactAlphabetOfPlaces.j2 kj36 t190 true t176 t191))))) else (some false))) = some r := H
         have A54 := Aside0.mk A540
         clear A540
         by_cases c55 : t192 < 0
         ·rw [if_pos c55] at H
          have c55b0 : decide (t192 < 0) = true := decide_eq_true c55
          clear c55
          exact absurd (Option.some.inj H) (by rw [HT_.out]; decide)
         ·rw [if_neg c55] at H
          have c55b0 : decide (t192 < 0) = false := decide_eq_false c55
          clear c55
          by_cases c56 : t192 = t190
          ·rw [if_pos c56] at H
           have c56b0 : (t192 == t190) = true := beq_iff_eq.mpr c56
           have c56b1 : (t192 != t190) = false := bne_eq_false_iff_eq.mpr c56
           clear c56
           replace H := Option.bind_eq_some_iff.mp H
           obtain ⟨t193, A570, H⟩ := H
           replace H : ((impl_AlphabetOfPlaces.f kj36 a0 t193).bind fun bt196 => ((laws_eqAlphabet.f kj36 bt196.1 bt196.2.1 t167 t168).bind fun t202 => (if t202 = true then (laws_FnExactAlphabetOfPlaces.j2 kj36 t190 (bt196.2.2 != t171) t176 t191) else (laws_FnExactAlphabetOfPlaces.j2 kj36 t190 true t176 t191)))) = some r := H
           have A57 := Aside0.mk A570
           clear A570
           replace H := Option.bind_eq_some_iff.mp H
           obtain ⟨⟨t196, t197, t200⟩, A580, H⟩ := H
           replace H : ((laws_eqAlphabet.f kj36 t196 t197 t167 t168).bind fun t202 => (if t202 = true then (laws_FnExactAlphabetOfPlaces.j2 kj36 t190 (t200 != t171) t176 t191) else (laws_FnExactAlphabetOfPlaces.j2 kj36 t190 true t176 t191))) = some r := H
           have A58 := Aside0.mk A580
           clear A580
           have HC59 := Aside0.mk H
           clear H
           have hnb60 := NB181_172.out
           have hnc60 := NB172_181.out
           have hcz61_0 : wc.cell? ⟨gb181, 0, none⟩ = some (.int .i64 t176) := (blk_cell BK181.out 0).trans rfl
           have hcz61_1 : wc.cell? ⟨gb181, 1, none⟩ = some (.slice Ao21 t177.length co21) := (blk_cell BK181.out 1).trans rfl
           have hfz61_0 := blk_frozen BK181.out 0
           have hfz61_1 := blk_frozen BK181.out 1
           go_upto_region 23 with (first | ((with_reducible refine gate_callee (f := 14) rfl ?_); refine goesS (some 65) Try.func14 #[.agg #[.int .i64 t176, .slice Ao21 t177.length co21], .int .i64 1] ?_; (with_reducible refine (laws_markAlphabet.calls kj36 t176 (fun k_ => some k_ = (.slice Ao21 t177.length co21 : Value).ownBlock) (.slice Ao21 t177.length co21) t177 1 t190 t191 w _ ?side1 ?side2 A53.out).mono ?_); (case side1 => repeat (first | (with_reducible first | exact HB.out | apply below_alloc | apply pw_below_drewN | apply below_drew1 | refine below_set ?_ GE172.out | refine below_set ?_ GE181.out) | exact HB.out)); (case side2 => exact Kd.R_tight rfl HO_182001.out); rintro e w62 ⟨rfl, hy0, hb, hkp⟩; refine ⟨_, rfl, ?_⟩; have n0_ := Aside0.mk (Kd.R_mono (ok' := fun k_ => some k_ ≠ (.slice Ao21 t177.length co21 : Value).ownBlock) (Kd.R_keptB (HO_173001.out) hkp (fun k_ hk_ hs_ => (hk_) hs_)) (fun k_ hk_ => hk_.1)); have n1_ := Aside0.mk (Kd.R_reok rfl hy0 (fun k_ e_ => HO_182001.out.1 k_ e_)); have n2_ := Aside0.mk (blk_kept (bP BK172.out) hkp (fun hs_ => (fun e_ => (Kd.R_ne HO_182001.out BK172.out (by decide)) e_) hs_)); have n3_ := Aside0.mk (blk_kept (bP BK181.out) hkp (fun hs_ => (fun e_ => (Kd.R_ne HO_182001.out BK181.out (by decide)) e_) hs_)); have n4_ := Aside0.mk (hb); clear HO_173001; clear HO_182001; clear BK172; clear BK181; clear HB; have HO_173001 := n0_; have HO_182001 := n1_; have BK172 := n2_; have BK181 := n3_; have HB := n4_; clear n0_ n1_ n2_ n3_ n4_; (try clear hb); (try clear hkp); (try clear hy0); obtain ⟨hcz63_0, hcz63_1⟩ := cells2 BK181.out; obtain ⟨hfz63_0, hfz63_1⟩ := frz2 BK181.out) | ((with_reducible refine gate_callee (f := 15) rfl ?_); refine goesL_ (some 68) rfl rfl Try.func15 (by kernel_rfl) rfl #[.agg #[.int .i64 t176, .slice Ao21 t191.length co21], .int .i64 1] rfl (by (try simp only [List.map_toArray, List.map_cons, List.map_nil]); first | done | (rw [show t191.length = t177.length from (Kd.R_reads' HO_182001.out).1.symm] <;> rfl) | rfl | (simp only [List.length_drop, List.length_take]; rfl)) ?_; (with_reducible refine (laws_heldAlphabet.calls kj36 t176 _ _ t191 1 t192 _ ?side1 ?side2 A54.out).mono ?_); (case side1 => exact cP ((Kd.R_reads' HO_182001.out).2.2)); (case side2 => rw [show t191.length = t177.length from (Kd.R_reads' HO_182001.out).1.symm]; exact (Kd.R_reads' HO_182001.out).2.1); rintro e w64 ⟨rfl, hb⟩; refine ⟨_, rfl, ?_⟩; have n0_ := Aside0.mk (Kd.R_below (rP HO_173001.out) hb); have n1_ := Aside0.mk (Kd.R_below (rP HO_182001.out) hb); have n2_ := Aside0.mk (blkB BK172.out hb); have n3_ := Aside0.mk (blkB BK181.out hb); have n4_ := Aside0.mk (below_step (bW) hb); clear HO_173001; clear HO_182001; clear BK172; clear BK181; clear HB; have HO_173001 := n0_; have HO_182001 := n1_; have BK172 := n2_; have BK181 := n3_; have HB := n4_; clear n0_ n1_ n2_ n3_ n4_; (try clear hb); (try clear hb2); (try clear hk); (try clear hi)) | ((with_reducible refine gate_callee (f := 9) rfl ?_); refine goesS (some 77) Try.func9 #[.slice A1 l1.length c1] ?_; (with_reducible refine (laws_toInt64S.calls kj36 _ _ l1 t193 _ ?side1 ?side2 A57.out).mono ?_); (case side1 => exact cP (Kd.C_below HR1.out HB.out)); (case side2 => exact HC1.out); rintro e w65 ⟨v194, rfl, ho0, hb⟩; refine ⟨_, rfl, ?_⟩; have n0_ := Aside0.mk (Kd.R_elder' (rP HO_173001.out) (Kd.R_base ho0) hb); have n1_ := Aside0.mk (Kd.R_elder' (rP HO_182001.out) (Kd.R_base ho0) hb); have n2_ := Aside0.mk (Kd.R_lower (Kd.R_new' (Kd.R_new' ho0 (Kd.R_lt (rP HO_173001.out))) (Kd.R_lt (rP HO_182001.out))) (below_size (bW))); have n3_ := Aside0.mk (blkB BK172.out hb); have n4_ := Aside0.mk (blkB BK181.out hb); have n5_ := Aside0.mk (below_step (bW) hb); clear HO_173001; clear HO_182001; clear BK172; clear BK181; clear HB; have HO_173001 := n0_; have HO_182001 := n1_; have HO195 := n2_; have BK172 := n3_; have BK181 := n4_; have HB := n5_; clear n0_ n1_ n2_ n3_ n4_ n5_; (try clear hb); (try clear hb2); (try clear hk); (try clear hi); (try clear ho0); obtain ⟨Ao66, co66, eo66⟩ := Kd.R_slice HO195.out; subst eo66) | ((with_reducible refine gate_callee (f := 10) rfl ?_); refine goesS (some 78) Try.func10 #[.int .i64 a0, .slice Ao66 t193.length co66] ?_; (with_reducible refine (impl_AlphabetOfPlaces.calls kj36 a0 _ _ t193 t196 t197 t200 _ ?side1 ?side2 A58.out).mono ?_); (case side1 => exact cP ((Kd.R_reads' HO195.out).2.2)); (case side2 => exact (Kd.R_reads' HO195.out).2.1); rintro e w67 ⟨v198, rfl, ho0, hb⟩; refine ⟨_, rfl, ?_⟩; have n0_ := Aside0.mk (Kd.R_elder' (rP HO_173001.out) (Kd.R_base ho0) hb); have n1_ := Aside0.mk (Kd.R_elder' (rP HO_182001.out) (Kd.R_base ho0) hb); have n2_ := Aside0.mk (Kd.R_elder' (rP HO195.out) (Kd.R_base ho0) hb); have n3_ := Aside0.mk (Kd.R_lower (Kd.R_new' (Kd.R_new' (Kd.R_new' ho0 (Kd.R_lt (rP HO_173001.out))) (Kd.R_lt (rP HO_182001.out))) (Kd.R_lt (rP HO195.out))) (below_size (bW))); have n4_ := Aside0.mk (blkB BK172.out hb); have n5_ := Aside0.mk (blkB BK181.out hb); have n6_ := Aside0.mk (below_step (bW) hb); clear HO_173001; clear HO_182001; clear HO195; clear BK172; clear BK181; clear HB; have HO_173001 := n0_; have HO_182001 := n1_; have HO195 := n2_; have HO199 := n3_; have BK172 := n4_; have BK181 := n5_; have HB := n6_; clear n0_ n1_ n2_ n3_ n4_ n5_ n6_; (try clear hb); (try clear hb2); (try clear hk); (try clear hi); (try clear ho0)) | ((with_reducible refine gate_dst (N := 13) rfl ?_); refine boxS (N := 13) (cs := #[.int .i64 0, .slice none 0 0]) (t := 24) ?_; intro gb201 hg w68 hbox hb; have n0_ := Aside0.mk (Kd.R_below (rP HO_173001.out) hb); have n1_ := Aside0.mk (Kd.R_below (rP HO_182001.out) hb); have n2_ := Aside0.mk (Kd.R_below (rP HO195.out) hb); have n3_ := Aside0.mk (Kd.R_below (rP HO199.out) hb); have n4_ := Aside0.mk (blkB BK172.out hb); have n5_ := Aside0.mk (blkB BK181.out hb); have n6_ := Aside0.mk (below_step (bW) hb); have n7_ := Aside0.mk (hbox); have n8_ := geW (w := w) hg; have n9_ := geW (w := w) hg; have n10_ := Aside0.mk ((by rw [hg]; exact Nat.ne_of_lt (blk_lt (g := gb172) (o := .cells #[.int .i64 t167, .slice Ao14 t168.length co14] 24 (0, 0)) (bP BK172.out)) : gb172 ≠ gb201)); have n11_ := Aside0.mk ((by rw [hg]; exact Nat.ne_of_gt (blk_lt (g := gb172) (o := .cells #[.int .i64 t167, .slice Ao14 t168.length co14] 24 (0, 0)) (bP BK172.out)) : gb201 ≠ gb172)); have n12_ := Aside0.mk ((by rw [hg]; exact Nat.ne_of_lt (blk_lt (g := gb181) (o := .cells #[.int .i64 t176, .slice Ao21 t177.length co21] 24 (0, 0)) (bP BK181.out)) : gb181 ≠ gb201)); have n13_ := Aside0.mk ((by rw [hg]; exact Nat.ne_of_gt (blk_lt (g := gb181) (o := .cells #[.int .i64 t176, .slice Ao21 t177.length co21] 24 (0, 0)) (bP BK181.out)) : gb201 ≠ gb181)); clear HO_173001; clear HO_182001; clear HO195; clear HO199; clear BK172; clear BK181; clear HB; have HO_173001 := n0_; have HO_182001 := n1_; have HO195 := n2_; have HO199 := n3_; have BK172 := n4_; have BK181 := n5_; have HB := n6_; have BK201 := n7_; have GW201 := n8_; have GE201 := n9_; have NB172_201 := n10_; have NB201_172 := n11_; have NB181_201 := n12_; have NB201_181 := n13_; clear n0_ n1_ n2_ n3_ n4_ n5_ n6_ n7_ n8_ n9_ n10_ n11_ n12_ n13_; clear hb hbox hg; have hnb69 := NB201_172.out; have hnc69 := NB172_201.out; have hnb70 := NB201_181.out; have hnc70 := NB181_201.out; obtain ⟨hcz71_0, hcz71_1⟩ := cells2 BK201.out; obtain ⟨hfz71_0, hfz71_1⟩ := frz2 BK201.out; obtain ⟨Ao72, co72, eo72⟩ := Kd.R_slice HO199.out; subst eo72))
           (try simp only [Act.put, List.setIfInBounds_toArray, List.set_cons_zero, List.set_cons_succ])
           go_cut [89] (fun v89 wc => ∃ (kq : Nat) (x89_58 : Bool), v89 = .bool x89_58 ∧ Aside0 (laws_FnExactAlphabetOfPlaces.j2 kq t190 x89_58 t176 t191 = some r) ∧ Aside0 (kq ≤ kj36) ∧ Aside0 (Kd.R (Kd.int .i64) 2 wc w.heap.size (fun k_ => some k_ ≠ ((.slice Ao21 t177.length co21) : Value).ownBlock ∧ some k_ ≠ ((.slice Ao72 t197.length co72) : Value).ownBlock) (.slice Ao14 t168.length co14) t168) ∧ Aside0 (Kd.R (Kd.int .i64) 2 wc w.heap.size (fun k_ => some k_ ≠ ((.slice Ao14 t168.length co14) : Value).ownBlock ∧ some k_ ≠ ((.slice Ao72 t197.length co72) : Value).ownBlock) (.slice Ao21 t177.length co21) t191) ∧ Aside0 (Kd.R (Kd.int .i64) 2 wc w.heap.size (fun k_ => some k_ ≠ ((.slice Ao14 t168.length co14) : Value).ownBlock ∧ some k_ ≠ ((.slice Ao21 t177.length co21) : Value).ownBlock) (.slice Ao72 t197.length co72) t197) ∧ Aside0 (wc.heap[gb172]? = some (.cells #[.int .i64 t167, (.slice Ao14 t168.length co14)] 24 (0, 0))) ∧ Aside0 (wc.heap[gb181]? = some (.cells #[.int .i64 t176, (.slice Ao21 t177.length co21)] 24 (0, 0))) ∧ Aside0 (wc.heap[gb201]? = some (.cells #[.int .i64 t196, (.slice Ao72 t197.length co72)] 24 (0, 0))) ∧ Aside0 (Below w.heap.size w wc))
           case first =>
            have H := HC59.out
            clear HC59
            replace H := Option.bind_eq_some_iff.mp H
            obtain ⟨t202, A730, H⟩ := H
            replace H : (if t202 = true then (laws_FnExactAlphabetOfPlaces.j2 kj36 t190 (t200 != t171) t176 t191) else (laws_FnExactAlphabetOfPlaces.j2 kj36 t190 true t176 t191)) = some r := H
            have A73 := Aside0.mk A730
            clear A730
            by_cases c74 : t202 = true
            ·subst c74
             have H1 : (laws_FnExactAlphabetOfPlaces.j2 kj36 t190 (t200 != t171) t176 t191) = some r := by rw [if_pos rfl] at H; exact H
             clear H
             have H := H1
             clear H1
             have H' := Aside0.mk H
             clear H
             have hnb75 := NB201_172.out
             have hnc75 := NB172_201.out
             have hnb76 := NB201_181.out
             have hnc76 := NB181_201.out
             have hcz77_0 : w68.cell? ⟨gb201, 0, none⟩ = some (.int .i64 0) := (blk_cell BK201.out 0).trans rfl
             have hcz77_1 : w68.cell? ⟨gb201, 1, none⟩ = some (.slice none 0 0) := (blk_cell BK201.out 1).trans rfl
             have hfz77_0 := blk_frozen BK201.out 0
             have hfz77_1 := blk_frozen BK201.out 1
             have hnb78 := NB172_181.out
             have hnc78 := NB181_172.out
             have hcz79_0 : w68.cell? ⟨gb172, 0, none⟩ = some (.int .i64 t167) := (blk_cell BK172.out 0).trans rfl
             have hcz79_1 : w68.cell? ⟨gb172, 1, none⟩ = some (.slice Ao14 t168.length co14) := (blk_cell BK172.out 1).trans rfl
             have hfz79_0 := blk_frozen BK172.out 0
             have hfz79_1 := blk_frozen BK172.out 1
             go_wp2_with (first | ((with_reducible refine gate_callee (f := 11) rfl ?_); refine goesS (some 83) Try.func11 #[.agg #[.int .i64 t196, .slice Ao72 t197.length co72], .agg #[.int .i64 t167, .slice Ao14 t168.length co14]] ?_; (with_reducible refine (laws_eqAlphabet.calls kj36 t196 _ _ t197 t167 _ _ t168 true _ ?side1 ?side2 ?side3 ?side4 A73.out).mono ?_); (case side1 => refine (Kd.R_reads' (e := 2) (base := w.heap.size) (ok := fun k_ => (((True ∧ some k_ ≠ (.slice Ao14 t168.length co14 : Value).ownBlock) ∧ some k_ ≠ (.slice Ao21 t177.length co21 : Value).ownBlock) ∧ some k_ ≠ (.slice Ao66 t193.length co66 : Value).ownBlock)) (n := t197.length) (c := co72) ?_).2.2; exact (by (with_reducible repeat (first | apply Kd.R_alloc | apply Kd.R_drewN | apply Kd.R_drew)); exact (Kd.R_mono (Kd.R_far (p := ⟨gb201, 1, none⟩) (Kd.R_far (p := ⟨gb201, 0, none⟩) (Kd.R_types HO199.out BK201.out (by decide)) (fun _ hk => hk.2) (.int .i64 t196)) (fun _ hk => hk.2) (.slice Ao72 t197.length co72)) (fun _ h_ => h_.1)))); (case side2 => exact (Kd.R_reads' HO199.out).2.1); (case side3 => refine (Kd.R_reads' (e := 2) (base := w.heap.size) (ok := fun k_ => ((some k_ ≠ (.slice Ao21 t177.length co21 : Value).ownBlock ∧ some k_ ≠ (.slice Ao66 t193.length co66 : Value).ownBlock) ∧ some k_ ≠ (.slice Ao72 t197.length co72 : Value).ownBlock)) (n := t168.length) (c := co14) ?_).2.2; exact (by (with_reducible repeat (first | apply Kd.R_alloc | apply Kd.R_drewN | apply Kd.R_drew)); exact (Kd.R_mono (Kd.R_far (p := ⟨gb201, 1, none⟩) (Kd.R_far (p := ⟨gb201, 0, none⟩) (Kd.R_types HO_173001.out BK201.out (by decide)) (fun _ hk => hk.2) (.int .i64 t196)) (fun _ hk => hk.2) (.slice Ao72 t197.length co72)) (fun _ h_ => h_.1)))); (case side4 => exact (Kd.R_reads' HO_173001.out).2.1); rintro e w80 ⟨rfl, hb⟩; refine ⟨_, rfl, ?_⟩; have n0_ := Aside0.mk (Kd.R_below (by (with_reducible repeat (first | apply Kd.R_alloc | apply Kd.R_drewN | apply Kd.R_drew)); exact (Kd.R_mono (Kd.R_far (p := ⟨gb201, 1, none⟩) (Kd.R_far (p := ⟨gb201, 0, none⟩) (Kd.R_types HO_173001.out BK201.out (by decide)) (fun _ hk => hk.2) (.int .i64 t196)) (fun _ hk => hk.2) (.slice Ao72 t197.length co72)) (fun _ h_ => h_.1))) hb); have n1_ := Aside0.mk (Kd.R_below (by (with_reducible repeat (first | apply Kd.R_alloc | apply Kd.R_drewN | apply Kd.R_drew)); exact (Kd.R_mono (Kd.R_far (p := ⟨gb201, 1, none⟩) (Kd.R_far (p := ⟨gb201, 0, none⟩) (Kd.R_types HO_182001.out BK201.out (by decide)) (fun _ hk => hk.2) (.int .i64 t196)) (fun _ hk => hk.2) (.slice Ao72 t197.length co72)) (fun _ h_ => h_.1))) hb); have n2_ := Aside0.mk (Kd.R_below (by (with_reducible repeat (first | apply Kd.R_alloc | apply Kd.R_drewN | apply Kd.R_drew)); exact (Kd.R_mono (Kd.R_far (p := ⟨gb201, 1, none⟩) (Kd.R_far (p := ⟨gb201, 0, none⟩) (Kd.R_types HO195.out BK201.out (by decide)) (fun _ hk => hk.2) (.int .i64 t196)) (fun _ hk => hk.2) (.slice Ao72 t197.length co72)) (fun _ h_ => h_.1))) hb); have n3_ := Aside0.mk (Kd.R_below (by (with_reducible repeat (first | apply Kd.R_alloc | apply Kd.R_drewN | apply Kd.R_drew)); exact (Kd.R_mono (Kd.R_far (p := ⟨gb201, 1, none⟩) (Kd.R_far (p := ⟨gb201, 0, none⟩) (Kd.R_types HO199.out BK201.out (by decide)) (fun _ hk => hk.2) (.int .i64 t196)) (fun _ hk => hk.2) (.slice Ao72 t197.length co72)) (fun _ h_ => h_.1))) hb); have n4_ := Aside0.mk (blk_below (g := gb172) (o := .cells #[.int .i64 t167, .slice Ao14 t168.length co14] 24 (0, 0)) (by (with_reducible repeat (first | refine blk_drewN ?_ _ | refine blk_drew ?_ | refine blk_alloc ?_ _)); refine blk_far ?_ NB172_201.out _; (with_reducible repeat (first | refine blk_drewN ?_ _ | refine blk_drew ?_ | refine blk_alloc ?_ _)); refine blk_far ?_ NB172_201.out _; exact bP BK172.out) hb); have n5_ := Aside0.mk (blk_below (g := gb181) (o := .cells #[.int .i64 t176, .slice Ao21 t177.length co21] 24 (0, 0)) (by (with_reducible repeat (first | refine blk_drewN ?_ _ | refine blk_drew ?_ | refine blk_alloc ?_ _)); refine blk_far ?_ NB181_201.out _; (with_reducible repeat (first | refine blk_drewN ?_ _ | refine blk_drew ?_ | refine blk_alloc ?_ _)); refine blk_far ?_ NB181_201.out _; exact bP BK181.out) hb); have n6_ := Aside0.mk (blk_below (g := gb201) (o := .cells #[.int .i64 t196, .slice Ao72 t197.length co72] 24 (0, 0)) (by (with_reducible repeat (first | refine blk_drewN ?_ _ | refine blk_drew ?_ | refine blk_alloc ?_ _)); refine blk_put (cs := #[.int .i64 t196, .slice none 0 0]) ?_ 1 _ rfl; (with_reducible repeat (first | refine blk_drewN ?_ _ | refine blk_drew ?_ | refine blk_alloc ?_ _)); refine blk_put (cs := #[.int .i64 0, .slice none 0 0]) ?_ 0 _ rfl; exact bP BK201.out) hb); have n7_ := Aside0.mk (below_step (bW) hb); clear HO_173001; clear HO_182001; clear HO195; clear HO199; clear BK172; clear BK181; clear BK201; clear HB; have HO_173001 := n0_; have HO_182001 := n1_; have HO195 := n2_; have HO199 := n3_; have BK172 := n4_; have BK181 := n5_; have BK201 := n6_; have HB := n7_; clear n0_ n1_ n2_ n3_ n4_ n5_ n6_ n7_; (try clear hb); (try clear hb2); (try clear hk); (try clear hi)))
             go_meet
             case rel => exact ⟨_, ((t200 != t171)), (eW), H', ⟨by have := HJ7.out; have := HJ36.out; first | omega | exact Nat.le_refl _⟩, ⟨by (with_reducible repeat (first | apply Kd.R_alloc | apply Kd.R_drewN | apply Kd.R_drew)); exact Kd.R_mono HO_173001.out (fun _ hk => ⟨hk.1.1, hk.2⟩)⟩, ⟨by (with_reducible repeat (first | apply Kd.R_alloc | apply Kd.R_drewN | apply Kd.R_drew)); exact Kd.R_mono HO_182001.out (fun _ hk => ⟨hk.1.1, hk.2⟩)⟩, ⟨by (with_reducible repeat (first | apply Kd.R_alloc | apply Kd.R_drewN | apply Kd.R_drew)); exact Kd.R_mono HO199.out (fun _ hk => ⟨hk.1.1.2, hk.1.2⟩)⟩, ⟨(bP BK172.out)⟩, ⟨(bP BK181.out)⟩, ⟨(bP BK201.out)⟩, ⟨bW⟩⟩
            ·replace c74 := Bool.eq_false_iff.mpr c74
             subst c74
             have H1 : (laws_FnExactAlphabetOfPlaces.j2 kj36 t190 true t176 t191) = some r := by rw [if_neg (show ¬ (false = true) by decide)] at H; exact H
             clear H
             have H := H1
             clear H1
             have H' := Aside0.mk H
             clear H
             have hnb81 := NB201_172.out
             have hnc81 := NB172_201.out
             have hnb82 := NB201_181.out
             have hnc82 := NB181_201.out
             have hcz83_0 : w68.cell? ⟨gb201, 0, none⟩ = some (.int .i64 0) := (blk_cell BK201.out 0).trans rfl
             have hcz83_1 : w68.cell? ⟨gb201, 1, none⟩ = some (.slice none 0 0) := (blk_cell BK201.out 1).trans rfl
             have hfz83_0 := blk_frozen BK201.out 0
             have hfz83_1 := blk_frozen BK201.out 1
             have hnb84 := NB172_181.out
             have hnc84 := NB181_172.out
             have hcz85_0 : w68.cell? ⟨gb172, 0, none⟩ = some (.int .i64 t167) := (blk_cell BK172.out 0).trans rfl
             have hcz85_1 : w68.cell? ⟨gb172, 1, none⟩ = some (.slice Ao14 t168.length co14) := (blk_cell BK172.out 1).trans rfl
             have hfz85_0 := blk_frozen BK172.out 0
             have hfz85_1 := blk_frozen BK172.out 1
             go_wp2_with (first | ((with_reducible refine gate_callee (f := 11) rfl ?_); refine goesS (some 83) Try.func11 #[.agg #[.int .i64 t196, .slice Ao72 t197.length co72], .agg #[.int .i64 t167, .slice Ao14 t168.length co14]] ?_; (with_reducible refine (laws_eqAlphabet.calls kj36 t196 _ _ t197 t167 _ _ t168 false _ ?side1 ?side2 ?side3 ?side4 A73.out).mono ?_); (case side1 => refine (Kd.R_reads' (e := 2) (base := w.heap.size) (ok := fun k_ => (((True ∧ some k_ ≠ (.slice Ao14 t168.length co14 : Value).ownBlock) ∧ some k_ ≠ (.slice Ao21 t177.length co21 : Value).ownBlock) ∧ some k_ ≠ (.slice Ao66 t193.length co66 : Value).ownBlock)) (n := t197.length) (c := co72) ?_).2.2; exact (by (with_reducible repeat (first | apply Kd.R_alloc | apply Kd.R_drewN | apply Kd.R_drew)); exact (Kd.R_mono (Kd.R_far (p := ⟨gb201, 1, none⟩) (Kd.R_far (p := ⟨gb201, 0, none⟩) (Kd.R_types HO199.out BK201.out (by decide)) (fun _ hk => hk.2) (.int .i64 t196)) (fun _ hk => hk.2) (.slice Ao72 t197.length co72)) (fun _ h_ => h_.1)))); (case side2 => exact (Kd.R_reads' HO199.out).2.1); (case side3 => refine (Kd.R_reads' (e := 2) (base := w.heap.size) (ok := fun k_ => ((some k_ ≠ (.slice Ao21 t177.length co21 : Value).ownBlock ∧ some k_ ≠ (.slice Ao66 t193.length co66 : Value).ownBlock) ∧ some k_ ≠ (.slice Ao72 t197.length co72 : Value).ownBlock)) (n := t168.length) (c := co14) ?_).2.2; exact (by (with_reducible repeat (first | apply Kd.R_alloc | apply Kd.R_drewN | apply Kd.R_drew)); exact (Kd.R_mono (Kd.R_far (p := ⟨gb201, 1, none⟩) (Kd.R_far (p := ⟨gb201, 0, none⟩) (Kd.R_types HO_173001.out BK201.out (by decide)) (fun _ hk => hk.2) (.int .i64 t196)) (fun _ hk => hk.2) (.slice Ao72 t197.length co72)) (fun _ h_ => h_.1)))); (case side4 => exact (Kd.R_reads' HO_173001.out).2.1); rintro e w86 ⟨rfl, hb⟩; refine ⟨_, rfl, ?_⟩; have n0_ := Aside0.mk (Kd.R_below (by (with_reducible repeat (first | apply Kd.R_alloc | apply Kd.R_drewN | apply Kd.R_drew)); exact (Kd.R_mono (Kd.R_far (p := ⟨gb201, 1, none⟩) (Kd.R_far (p := ⟨gb201, 0, none⟩) (Kd.R_types HO_173001.out BK201.out (by decide)) (fun _ hk => hk.2) (.int .i64 t196)) (fun _ hk => hk.2) (.slice Ao72 t197.length co72)) (fun _ h_ => h_.1))) hb); have n1_ := Aside0.mk (Kd.R_below (by (with_reducible repeat (first | apply Kd.R_alloc | apply Kd.R_drewN | apply Kd.R_drew)); exact (Kd.R_mono (Kd.R_far (p := ⟨gb201, 1, none⟩) (Kd.R_far (p := ⟨gb201, 0, none⟩) (Kd.R_types HO_182001.out BK201.out (by decide)) (fun _ hk => hk.2) (.int .i64 t196)) (fun _ hk => hk.2) (.slice Ao72 t197.length co72)) (fun _ h_ => h_.1))) hb); have n2_ := Aside0.mk (Kd.R_below (by (with_reducible repeat (first | apply Kd.R_alloc | apply Kd.R_drewN | apply Kd.R_drew)); exact (Kd.R_mono (Kd.R_far (p := ⟨gb201, 1, none⟩) (Kd.R_far (p := ⟨gb201, 0, none⟩) (Kd.R_types HO195.out BK201.out (by decide)) (fun _ hk => hk.2) (.int .i64 t196)) (fun _ hk => hk.2) (.slice Ao72 t197.length co72)) (fun _ h_ => h_.1))) hb); have n3_ := Aside0.mk (Kd.R_below (by (with_reducible repeat (first | apply Kd.R_alloc | apply Kd.R_drewN | apply Kd.R_drew)); exact (Kd.R_mono (Kd.R_far (p := ⟨gb201, 1, none⟩) (Kd.R_far (p := ⟨gb201, 0, none⟩) (Kd.R_types HO199.out BK201.out (by decide)) (fun _ hk => hk.2) (.int .i64 t196)) (fun _ hk => hk.2) (.slice Ao72 t197.length co72)) (fun _ h_ => h_.1))) hb); have n4_ := Aside0.mk (blk_below (g := gb172) (o := .cells #[.int .i64 t167, .slice Ao14 t168.length co14] 24 (0, 0)) (by (with_reducible repeat (first | refine blk_drewN ?_ _ | refine blk_drew ?_ | refine blk_alloc ?_ _)); refine blk_far ?_ NB172_201.out _; (with_reducible repeat (first | refine blk_drewN ?_ _ | refine blk_drew ?_ | refine blk_alloc ?_ _)); refine blk_far ?_ NB172_201.out _; exact bP BK172.out) hb); have n5_ := Aside0.mk (blk_below (g := gb181) (o := .cells #[.int .i64 t176, .slice Ao21 t177.length co21] 24 (0, 0)) (by (with_reducible repeat (first | refine blk_drewN ?_ _ | refine blk_drew ?_ | refine blk_alloc ?_ _)); refine blk_far ?_ NB181_201.out _; (with_reducible repeat (first | refine blk_drewN ?_ _ | refine blk_drew ?_ | refine blk_alloc ?_ _)); refine blk_far ?_ NB181_201.out _; exact bP BK181.out) hb); have n6_ := Aside0.mk (blk_below (g := gb201) (o := .cells #[.int .i64 t196, .slice Ao72 t197.length co72] 24 (0, 0)) (by (with_reducible repeat (first | refine blk_drewN ?_ _ | refine blk_drew ?_ | refine blk_alloc ?_ _)); refine blk_put (cs := #[.int .i64 t196, .slice none 0 0]) ?_ 1 _ rfl; (with_reducible repeat (first | refine blk_drewN ?_ _ | refine blk_drew ?_ | refine blk_alloc ?_ _)); refine blk_put (cs := #[.int .i64 0, .slice none 0 0]) ?_ 0 _ rfl; exact bP BK201.out) hb); have n7_ := Aside0.mk (below_step (bW) hb); clear HO_173001; clear HO_182001; clear HO195; clear HO199; clear BK172; clear BK181; clear BK201; clear HB; have HO_173001 := n0_; have HO_182001 := n1_; have HO195 := n2_; have HO199 := n3_; have BK172 := n4_; have BK181 := n5_; have BK201 := n6_; have HB := n7_; clear n0_ n1_ n2_ n3_ n4_ n5_ n6_ n7_; (try clear hb); (try clear hb2); (try clear hk); (try clear hi)))
             go_meet
             case rel => exact ⟨_, (true), (eW), H', ⟨by have := HJ7.out; have := HJ36.out; first | omega | exact Nat.le_refl _⟩, ⟨by (with_reducible repeat (first | apply Kd.R_alloc | apply Kd.R_drewN | apply Kd.R_drew)); exact Kd.R_mono HO_173001.out (fun _ hk => ⟨hk.1.1, hk.2⟩)⟩, ⟨by (with_reducible repeat (first | apply Kd.R_alloc | apply Kd.R_drewN | apply Kd.R_drew)); exact Kd.R_mono HO_182001.out (fun _ hk => ⟨hk.1.1, hk.2⟩)⟩, ⟨by (with_reducible repeat (first | apply Kd.R_alloc | apply Kd.R_drewN | apply Kd.R_drew)); exact Kd.R_mono HO199.out (fun _ hk => ⟨hk.1.1.2, hk.1.2⟩)⟩, ⟨(bP BK172.out)⟩, ⟨(bP BK181.out)⟩, ⟨(bP BK201.out)⟩, ⟨bW⟩⟩
           case rest =>
            clear HC59
            try clear c1
            try clear c2
            try clear p2
            try clear c3
            try clear c3b0
            try clear c3b1
            try clear c4
            try clear c5
            try clear c6
            try clear c7
            try clear c8
            try clear c9
            try clear c10
            try clear c11
            try clear c12
            try clear c13
            try clear c14
            try clear c15
            try clear c19
            try clear c23
            try clear c24
            try clear c28
            try clear c32
            try clear c35
            try clear c41
            try clear c41b0
            try clear c43
            try clear c44
            try clear c48
            try clear c52
            try clear c55
            try clear c55b0
            try clear c56
            try clear c56b0
            try clear c56b1
            try clear c60
            try clear c69
            try clear c70
            try clear c74
            try clear c75
            try clear c76
            try clear c78
            try clear c81
            try clear c82
            try clear c84
            try clear hcz13_0
            try clear hcz13_1
            try clear hcz20_0
            try clear hcz20_1
            try clear hcz25_0
            try clear hcz25_1
            try clear hcz26_0
            try clear hcz26_1
            try clear hcz29_0
            try clear hcz29_1
            try clear hcz30_0
            try clear hcz30_1
            try clear hcz45_0
            try clear hcz45_1
            try clear hcz46_0
            try clear hcz46_1
            try clear hcz49_0
            try clear hcz49_1
            try clear hcz50_0
            try clear hcz50_1
            try clear hcz61_0
            try clear hcz61_1
            try clear hcz63_0
            try clear hcz63_1
            try clear hcz71_0
            try clear hcz71_1
            try clear hcz77_0
            try clear hcz77_1
            try clear hcz79_0
            try clear hcz79_1
            try clear hcz83_0
            try clear hcz83_1
            try clear hcz85_0
            try clear hcz85_1
            try clear hfz13_0
            try clear hfz13_1
            try clear hfz20_0
            try clear hfz20_1
            try clear hfz25_0
            try clear hfz25_1
            try clear hfz26_0
            try clear hfz26_1
            try clear hfz29_0
            try clear hfz29_1
            try clear hfz30_0
            try clear hfz30_1
            try clear hfz45_0
            try clear hfz45_1
            try clear hfz46_0
            try clear hfz46_1
            try clear hfz49_0
            try clear hfz49_1
            try clear hfz50_0
            try clear hfz50_1
            try clear hfz61_0
            try clear hfz61_1
            try clear hfz63_0
            try clear hfz63_1
            try clear hfz71_0
            try clear hfz71_1
            try clear hfz77_0
            try clear hfz77_1
            try clear hfz79_0
            try clear hfz79_1
            try clear hfz83_0
            try clear hfz83_1
            try clear hfz85_0
            try clear hfz85_1
            try clear p2
            obtain ⟨kq, x89_58, rfl, HA, HJ58, HO_173001, HO_182001, HO_202001, BK172, BK181, BK201, HB⟩ := hcut
            have hl182001_58 := (Kd.R_reads' HO_182001.out).1
            rw [hl182001_58] at HO_182001
            (try simp only [hl182001_58])
            (try simp only [hl182001_58] at BK172)
            (try simp only [hl182001_58] at BK181)
            (try simp only [hl182001_58] at BK201)
            (try simp only [hl182001_58] at HO_173001)
            (try simp only [hl182001_58] at HO_202001)
            cases kq with
            | zero => exact absurd HA.out (by simp [laws_FnExactAlphabetOfPlaces.j2])
            | succ kj58 =>
             have H := HA.out
             clear HA
             simp only [laws_FnExactAlphabetOfPlaces.j2] at H
             by_cases c87 : x89_58 = true
             ·subst c87
              have H1 : (some false) = some r := by rw [if_pos rfl] at H; exact H
              clear H
              have H := H1
              clear H1
              exact absurd (Option.some.inj H) (by rw [HT_.out]; decide)
             ·replace c87 := Bool.eq_false_iff.mpr c87
              subst c87
              have H1 : ((laws_heldAlphabet.f kj58 t176 t191 1).bind fun t203 => (if t203 < 0 then (some false) else (if t203 = t190 then (some true) else (some false)))) = some r := by rw [if_neg (show ¬ (false = true) by decide)] at H; exact H
              clear H
              have H := H1
              clear H1
              replace H := Option.bind_eq_some_iff.mp H
              obtain ⟨t203, A880, H⟩ := H
              replace H : (if t203 < 0 then (some false) else (if t203 = t190 then (some true) else (some false))) = some r := H
              have A88 := Aside0.mk A880
              clear A880
              by_cases c89 : t203 < 0
              ·rw [if_pos c89] at H
               have c89b0 : decide (t203 < 0) = true := decide_eq_true c89
               clear c89
               exact absurd (Option.some.inj H) (by rw [HT_.out]; decide)
              ·rw [if_neg c89] at H
               have c89b0 : decide (t203 < 0) = false := decide_eq_false c89
               clear c89
               by_cases c90 : t203 = t190
               ·rw [if_pos c90] at H
                have c90b0 : (t203 == t190) = true := beq_iff_eq.mpr c90
                have c90b1 : (t203 != t190) = false := bne_eq_false_iff_eq.mpr c90
                clear c90
                obtain rfl := Option.some.inj H
                have hnb91 := NB181_172.out
                have hnc91 := NB172_181.out
                have hnb92 := NB181_201.out
                have hnc92 := NB201_181.out
                have hcz93_0 : wc.cell? ⟨gb181, 0, none⟩ = some (.int .i64 t176) := (blk_cell BK181.out 0).trans rfl
                have hcz93_1 : wc.cell? ⟨gb181, 1, none⟩ = some (.slice Ao21 t191.length co21) := (blk_cell BK181.out 1).trans rfl
                have hfz93_0 := blk_frozen BK181.out 0
                have hfz93_1 := blk_frozen BK181.out 1
                go_wp2_with (first | ((with_reducible refine gate_callee (f := 15) rfl ?_); refine goesS (some 92) Try.func15 #[.agg #[.int .i64 t176, .slice Ao21 t191.length co21], .int .i64 1] ?_; (with_reducible refine (laws_heldAlphabet.calls kj58 t176 _ _ t191 1 t203 _ ?side1 ?side2 A88.out).mono ?_); (case side1 => exact cP ((Kd.R_reads' HO_182001.out).2.2)); (case side2 => exact (Kd.R_reads' HO_182001.out).2.1); rintro e w94 ⟨rfl, hb⟩; refine ⟨_, rfl, ?_⟩; have n0_ := Aside0.mk (Kd.R_below (rP HO_173001.out) hb); have n1_ := Aside0.mk (Kd.R_below (rP HO_182001.out) hb); have n2_ := Aside0.mk (Kd.R_below (rP HO_202001.out) hb); have n3_ := Aside0.mk (blkB BK172.out hb); have n4_ := Aside0.mk (blkB BK181.out hb); have n5_ := Aside0.mk (blkB BK201.out hb); have n6_ := Aside0.mk (below_step (bW) hb); clear HO_173001; clear HO_182001; clear HO_202001; clear BK172; clear BK181; clear BK201; clear HB; have HO_173001 := n0_; have HO_182001 := n1_; have HO_202001 := n2_; have BK172 := n3_; have BK181 := n4_; have BK201 := n5_; have HB := n6_; clear n0_ n1_ n2_ n3_ n4_ n5_ n6_; (try clear hb); (try clear hb2); (try clear hk); (try clear hi)))
                go_ret
                exact ⟨eW, bW⟩
               ·rw [if_neg c90] at H
                have c90b0 : (t203 == t190) = false := beq_eq_false_iff_ne.mpr c90
                have c90b1 : (t203 != t190) = true := bne_iff_ne.mpr c90
                exact absurd (Option.some.inj H) (by rw [HT_.out]; decide)
          ·rw [if_neg c56] at H
           have c56b0 : (t192 == t190) = false := beq_eq_false_iff_ne.mpr c56
           have c56b1 : (t192 != t190) = true := bne_iff_ne.mpr c56
           exact absurd (Option.some.inj H) (by rw [HT_.out]; decide)
     ·replace c35 := Bool.eq_false_iff.mpr c35
      subst c35
      have H1 : (some false) = some r := by rw [if_neg (show ¬ (false = true) by decide)] at H; exact H
      clear H
      have H := H1
      clear H1
      exact absurd (Option.some.inj H) (by rw [HT_.out]; decide)

/-! ### laws_szInt64S: function 61 -/
def laws_szInt64S.f (l0 : List Int) (a1 : Int) : Option (Int) := if (wrap64 (a1 - (l0.length : Int))) < 0 then (some (-1)) else (some (wrap64 (a1 - (l0.length : Int))))
set_option maxHeartbeats 8000000 in
set_option maxRecDepth 100000 in
theorem laws_szInt64S.calls (A0 : Option Addr) (c0 : Nat) (l0 : List Int) (a1 : Int) (r : Int) (w : World) (hr0 : Kd.C (Kd.int .i64) w A0 l0.length l0) (hc0 : l0.length ≤ c0) (h : laws_szInt64S.f l0 a1 = some r) :
  Calls Try.prog 61 #[.slice A0 l0.length c0, .int .i64 a1] w fun e w' => e = .returned (.int .i64 r) ∧ Drawn0 w w' := by
 have HR0 := Aside0.mk hr0
 have HC0 := Aside0.mk hc0
 clear hr0 hc0
 have H : (if (wrap64 (a1 - (l0.length : Int))) < 0 then (some (-1)) else (some (wrap64 (a1 - (l0.length : Int))))) = some r := h
 clear h
 by_cases c3 : (wrap64 (a1 - (l0.length : Int))) < 0
 ·rw [if_pos c3] at H
  have c3b0 : decide ((wrap64 (a1 - (l0.length : Int))) < 0) = true := decide_eq_true c3
  clear c3
  obtain rfl := Option.some.inj H
  go_enter Try.func61, Try.ntmps61
  go_wp2
  go_ret
  exact ⟨eW, by repeat (first | exact Drawn0.refl _ | apply Drawn0.step)⟩
 ·rw [if_neg c3] at H
  have c3b0 : decide ((wrap64 (a1 - (l0.length : Int))) < 0) = false := decide_eq_false c3
  clear c3
  obtain rfl := Option.some.inj H
  go_enter Try.func61, Try.ntmps61
  go_wp2
  go_ret
  exact ⟨eW, by repeat (first | exact Drawn0.refl _ | apply Drawn0.step)⟩

end Go.Proofs.Ytcibmpomidhgiaa.P
end M0
