import Derived.ArgAppend
import Derived.Below
import Derived.BigQuiet
import Derived.Deep.AppendLies
import Derived.Deep.CutBlock
import Derived.Deep.DeepCutAuto
import Derived.Deep.Draws
import Derived.Deep.LoopGhost
import Derived.Deep.OwnRows
import Derived.Deep.QuietTactic
import Derived.Deep.RegionHeld3
import Derived.KernelRfl
import Derived.Laws.BitsLemmas
import Derived.Laws.BytesArg
import Derived.Laws.IdiomCopy
import Derived.Laws.MakeOwn
import Derived.Laws.OwnMore
import Derived.Laws.Rows
import Derived.Laws.Slices
import Derived.Laws.StructEq
import Derived.Lib.AppendStr
import Derived.Lib.ConvBytes
import Derived.Lib.SliceRun
import Derived.Maps.AppendAt
import Derived.OrdersHeld
import Derived.OwnWalk
import Derived.RowKit
import Derived.RowKit3
import Derived.Shelf.Abstract
import Derived.Shelf.Spec.TrailingZeros
import Derived.Tactics
import Derived.Test.YthbaocejgjpfoaaDoorProg
import Derived.WalkKit
import Derived.WideLaws
import Derived.Test.YthbaocejgjpfoaaDoorCFnExactDiamondFault2
import Derived.Test.YthbaocejgjpfoaaDoorCFnExactDiamondFault6
import Derived.Test.YthbaocejgjpfoaaDoorCFnExactDiamondFault7
section M0
namespace Go.Proofs.YthbaocejgjpfoaaDoor.P
open Go.RowKit Go.Proofs.YthbaocejgjpfoaaDoor.Sh Go.Proofs.YthbaocejgjpfoaaDoorW.PrintWords Go.Proofs.YthbaocejgjpfoaaDoorW.PrintLast Go.Proofs.YthbaocejgjpfoaaDoorW.PrintMore
attribute [local go_sem] max2_int min2_int max_two min_two max_three min_three max_four min_four   -- for this text's walks alone
set_option linter.unusedVariables false
set_option linter.unusedSimpArgs false
/-! ### impl_DiamondFault: function 31 -/
def impl_DiamondFault.f (k : Nat) (a0_0 : Int) (l0_1 : List Int) (a1_0 : Int) (a1_1 : Int) (a1_2 : Int) (l1_3 : List (List Int)) : Option (List Int × Int) := (impl_checkOver.f k a0_0 l0_1 (([(⟨a1_0, a1_1, a1_2, l1_3⟩ : S48)] : List (S48)))).bind fun t512 => (if t512 = 0 then ((impl_machineOf.f k a1_0 a1_1 a1_2 l1_3).bind fun bt513 => ((impl_machine_diamondFault.f k bt513.1 bt513.2.1 bt513.2.2.1 bt513.2.2.2 a0_0 l0_1).bind fun t521 => (if t521 = [] then (some (([] : List Int), 4)) else (some (t521, 0))))) else (some (([] : List Int), t512)))
set_option maxHeartbeats 8000000 in
set_option maxRecDepth 100000 in
theorem impl_DiamondFault.calls (k : Nat) (a0_0 : Int) (A0_1 : Option Addr) (c0_1 : Nat) (l0_1 : List Int) (a1_0 : Int) (a1_1 : Int) (a1_2 : Int) (P1_3_ : Nat → Prop) (A1_3 : Option Addr) (c1_3 : Nat) (l1_3 : List (List Int)) (r1 : List Int) (r2 : Int) (w : World) (hr0_1 : Kd.C (Kd.int .i64) w A0_1 l0_1.length l0_1) (hc0_1 : l0_1.length ≤ c0_1) (hs1_3 : Kd.V (Kd.slice 2 (Kd.int .i64)) 22 w w.heap.size (fun k_ => P1_3_ k_) (.slice A1_3 l1_3.length c1_3) l1_3) (h : impl_DiamondFault.f k a0_0 l0_1 a1_0 a1_1 a1_2 l1_3 = some (r1, r2)) (hTab : Tab w) :
  Calls Tryd.prog 31 #[.agg #[.int .i64 a0_0, .slice A0_1 l0_1.length c0_1], .agg #[.int .i64 a1_0, .int .i64 a1_1, .int .i64 a1_2, .slice A1_3 l1_3.length c1_3]] w fun e w' => ∃ v0_ : Value, e = .returned (.tuple #[v0_, .int .i64 r2]) ∧ Kd.R (Kd.int .i64) 2 w' w.heap.size (fun k_ => (w.heap.size ≤ k_)) v0_ r1 ∧ Below w.heap.size w w' := by
 have HTab := Aside0.mk hTab
 clear hTab
 have hu29 := Tryd.underlying29
 have hu48 := Tryd.underlying48
 have HR0_1 := Aside0.mk hr0_1
 have HC0_1 := Aside0.mk hc0_1
 clear hr0_1 hc0_1
 have HO1_3 := Aside0.mk (show Kd.V (Kd.slice 2 (Kd.int .i64)) 22 w w.heap.size (fun k_ => (P1_3_ k_ ∨ w.heap.size ≤ k_)) (.slice A1_3 l1_3.length c1_3) l1_3 from Kd.V_mono hs1_3 (fun k_ hk => .inl hk))
 have HB := Aside0.mk (Below.refl w.heap.size w)
 have H : ((impl_checkOver.f k a0_0 l0_1 (([(⟨a1_0, a1_1, a1_2, l1_3⟩ : S48)] : List (S48)))).bind fun t512 => (if t512 = 0 then ((impl_machineOf.f k a1_0 a1_1 a1_2 l1_3).bind fun bt513 => ((impl_machine_diamondFault.f k bt513.1 bt513.2.1 bt513.2.2.1 bt513.2.2.2 a0_0 l0_1).bind fun t521 => (if t521 = [] then (some (([] : List Int), 4)) else (some (t521, 0))))) else (some (([] : List Int), t512)))) = some (r1, r2) := h
 clear h
 obtain ⟨y509, hy509⟩ : ∃ y_ : List (S48), y_ = (([(⟨a1_0, a1_1, a1_2, l1_3⟩ : S48)] : List (S48))) := ⟨_, rfl⟩
 replace H : ((impl_checkOver.f k a0_0 l0_1 y509).bind fun t512 => (if t512 = 0 then ((impl_machineOf.f k a1_0 a1_1 a1_2 l1_3).bind fun bt513 => ((impl_machine_diamondFault.f k bt513.1 bt513.2.1 bt513.2.2.1 bt513.2.2.2 a0_0 l0_1).bind fun t521 => (if t521 = [] then (some (([] : List Int), 4)) else (some (t521, 0))))) else (some (([] : List Int), t512)))) = some (r1, r2) := by first | (rw [hy509]; with_reducible exact H) | (have H2_ := (Option.bind_some _ _).symm.trans H; rw [hy509]; with_reducible exact H2_) | (have H2_ := (Option.bind_some _ _).symm.trans H; with_reducible exact H2_) | with_reducible exact H | (rw [hy509]; exact H) | exact H
 have Ny509 := Aside0.mk hy509
 clear hy509
 replace H := Option.bind_eq_some_iff.mp H
 obtain ⟨t512, A30, H⟩ := H
 replace H : (if t512 = 0 then ((impl_machineOf.f k a1_0 a1_1 a1_2 l1_3).bind fun bt513 => ((impl_machine_diamondFault.f k bt513.1 bt513.2.1 bt513.2.2.1 bt513.2.2.2 a0_0 l0_1).bind fun t521 => (if t521 = [] then (some (([] : List Int), 4)) else (some (t521, 0))))) else (some (([] : List Int), t512))) = some (r1, r2) := H
 have A3 := Aside0.mk A30
 clear A30
 by_cases c4 : t512 = 0
 ·rw [if_pos c4] at H
  have c4b0 : (t512 == 0) = true := beq_iff_eq.mpr c4
  have c4b1 : (t512 != 0) = false := bne_eq_false_iff_eq.mpr c4
  clear c4
  replace H := Option.bind_eq_some_iff.mp H
  obtain ⟨⟨t513, t514, t515, t518⟩, A50, H⟩ := H
  replace H : ((impl_machine_diamondFault.f k t513 t514 t515 t518 a0_0 l0_1).bind fun t521 => (if t521 = [] then (some (([] : List Int), 4)) else (some (t521, 0)))) = some (r1, r2) := H
  have A5 := Aside0.mk A50
  clear A50
  replace H := Option.bind_eq_some_iff.mp H
  obtain ⟨t521, A60, H⟩ := H
  replace H : (if t521 = [] then (some (([] : List Int), 4)) else (some (t521, 0))) = some (r1, r2) := H
  have A6 := Aside0.mk A60
  clear A60
  by_cases c7 : t521 = []
  ·rw [if_pos c7] at H
   have c7b0 : (t521 == []) = true := beq_iff_eq.mpr c7
   have c7b1 : (t521 != []) = false := bne_eq_false_iff_eq.mpr c7
   clear c7
   simp only [Option.some.injEq, Prod.mk.injEq] at H
   obtain ⟨rfl, rfl⟩ := H
   go_enter Tryd.func31, Tryd.ntmps31
   try go_wp2_with (first | ((with_reducible refine gate_dst (N := 2) rfl ?_); refine boxS (N := 2) (cs := #[.int .i64 a0_0, .slice A0_1 l0_1.length c0_1]) (t := 29) ?_; intro gb507 hg w8 hbox hb; have n0_ := Aside0.mk (Kd.V_below (Kd.V_elderB (by (with_reducible repeat (first | apply Kd.V_alloc | apply Kd.V_drewN | apply Kd.V_drew)); exact HO1_3.out) gb507 (Nat.le_of_eq hg.symm)) hb); have n1_ := Aside0.mk (below_step (bW) hb); have n2_ := Aside0.mk (hbox); have n3_ := geW (w := w) hg; have n4_ := geW (w := w) hg; clear HO1_3 HB; have HO1_3 := n0_; have HB := n1_; have BK507 := n2_; have GW507 := n3_; have GE507 := n4_; clear n0_ n1_ n2_ n3_ n4_ hb hbox hg) | ((with_reducible refine gate_dst (N := 3) rfl ?_); refine boxS (N := 3) (cs := #[.int .i64 a1_0, .int .i64 a1_1, .int .i64 a1_2, .slice A1_3 l1_3.length c1_3]) (t := 48) ?_; intro gb508 hg w9 hbox hb; have n0_ := Aside0.mk (Kd.V_below (Kd.V_elderB (by (with_reducible repeat (first | apply Kd.V_alloc | apply Kd.V_drewN | apply Kd.V_drew)); exact HO1_3.out) gb508 (Nat.le_of_eq hg.symm)) hb); have n1_ := Aside0.mk (blkB BK507.out hb); have n2_ := Aside0.mk (below_step (bW) hb); have n3_ := Aside0.mk (hbox); have n4_ := geW (w := w) hg; have n5_ := geW (w := w) hg; have n6_ := Aside0.mk ((by rw [hg]; exact Nat.ne_of_lt (blk_lt (g := gb507) (o := .cells #[.int .i64 a0_0, .slice A0_1 l0_1.length c0_1] 29 (0, 0)) (bP BK507.out)) : gb507 ≠ gb508)); have n7_ := Aside0.mk ((by rw [hg]; exact Nat.ne_of_gt (blk_lt (g := gb507) (o := .cells #[.int .i64 a0_0, .slice A0_1 l0_1.length c0_1] 29 (0, 0)) (bP BK507.out)) : gb508 ≠ gb507)); clear HO1_3 BK507 HB; have HO1_3 := n0_; have BK507 := n1_; have HB := n2_; have BK508 := n3_; have GW508 := n4_; have GE508 := n5_; have NB507_508 := n6_; have NB508_507 := n7_; clear n0_ n1_ n2_ n3_ n4_ n5_ n6_ n7_ hb hbox hg; have hnb10 := NB507_508.out; have hnc10 := NB508_507.out; obtain ⟨hcz11_0, hcz11_1⟩ := cells2 BK507.out; obtain ⟨hfz11_0, hfz11_1⟩ := frz2 BK507.out; obtain ⟨hcz12_0, hcz12_1, hcz12_2, hcz12_3⟩ := cells4 BK508.out; obtain ⟨hfz12_0, hfz12_1, hfz12_2, hfz12_3⟩ := frz4 BK508.out) | ((with_reducible refine gate_dst (N := 10) rfl ?_); refine Kd.N_lit k48 _ 48 ?hg (N' := 10) ?hd (xs := ([(⟨a1_0, a1_1, a1_2, l1_3⟩ : S48)] : List (S48))) (inner := [.int .i64 a1_0, .int .i64 a1_1, .int .i64 a1_2, .slice A1_3 l1_3.length c1_3]) (ok := (fun k_ => (P1_3_ k_ ∨ w.heap.size ≤ k_) ∧ k_ ≠ gb507 ∧ k_ ≠ gb508)) (okp := (fun k_ => (P1_3_ k_ ∨ w.heap.size ≤ k_) ∧ k_ ≠ gb507 ∧ k_ ≠ gb508)) ?hr ?hp (fun _ hk => hk) ((show ∀ k_, w9.heap.size ≤ k_ → (fun k_ => (P1_3_ k_ ∨ w.heap.size ≤ k_) ∧ k_ ≠ gb507 ∧ k_ ≠ gb508) k_ from fun k_ hk => ⟨(.inr (Nat.le_trans (below_size (bW)) hk)), Kd.freshB (g := gb507) (o := .cells #[.int .i64 a0_0, .slice A0_1 l0_1.length c0_1] 29 (0, 0)) (bP BK507.out) k_ hk, Kd.freshB (g := gb508) (o := .cells #[.int .i64 a1_0, .int .i64 a1_1, .int .i64 a1_2, .slice A1_3 l1_3.length c1_3] 48 (0, 0)) (bP BK508.out) k_ hk⟩) _ (Nat.le_refl _)) (Below.refl _ _) (Nat.le_refl _) (by simp) ?_; (case hd => rfl); (case hg => rfl); (case hr => first | (go_simp; done) | (go_simp; rfl)); (case hp => exact (Reps.c4 (show Kd.FK k48 _ _ (⟨a1_0, a1_1, a1_2, l1_3⟩ : S48) [.int .i64 a1_0, .int .i64 a1_1, .int .i64 a1_2, .slice A1_3 l1_3.length c1_3] from (k48_mkF _ _ (⟨a1_0, a1_1, a1_2, l1_3⟩ : S48) (Kd.V_reads' (Kd.V_mono (ok' := (fun k_ => (P1_3_ k_ ∨ w.heap.size ≤ k_) ∧ k_ ≠ gb507 ∧ k_ ≠ gb508)) (HO1_3.out) (fun k_ hk => ⟨hk.1.1, ⟨hk.1.2, hk.2⟩⟩))).2.1 (Kd.V_F (Kd.V_mono (ok' := (fun k_ => (P1_3_ k_ ∨ w.heap.size ≤ k_) ∧ k_ ≠ gb507 ∧ k_ ≠ gb508)) (HO1_3.out) (fun k_ hk => ⟨hk.1.1, ⟨hk.1.2, hk.2⟩⟩))))) (Reps.none _ _))); intro v510 w13 ho14 hb hg_ hnew_; clear hg_ hnew_; (first | rw [← Ny509.out] at ho14 | (simp only [Int.reduceToNat] at ho14; rw [← Ny509.out] at ho14)); have n0_ := Aside0.mk (Kd.V_elder' (by (with_reducible repeat (first | apply Kd.V_alloc | apply Kd.V_drewN | apply Kd.V_drew)); exact HO1_3.out) (Kd.N_base ho14) hb); have n1_ := Aside0.mk (Kd.N_lower ho14 (below_size (bW))); have n2_ := Aside0.mk (blkB BK507.out hb); have n3_ := Aside0.mk (blkB BK508.out hb); have n4_ := Aside0.mk (below_step (bW) hb); clear HO1_3 BK507 BK508 HB; have HO1_3 := n0_; have HO511 := n1_; have BK507 := n2_; have BK508 := n3_; have HB := n4_; clear n0_ n1_ n2_ n3_ n4_ hb ho14; obtain ⟨Ao15, co15, eo15⟩ := Kd.N_slice HO511.out; subst eo15) | ((with_reducible refine gate_callee (f := 68) rfl ?_); refine goesS (some 11) Tryd.func68 #[.agg #[.int .i64 a0_0, .slice A0_1 l0_1.length c0_1], .slice Ao15 y509.length co15] ?_; (with_reducible refine (impl_checkOver.calls k a0_0 _ _ l0_1 _ _ y509 t512 _ ?side1 ?side2 ?side3 ?side4 A3.out (tabW HTab.out)).mono ?_); (case side1 => exact cP (Kd.C_below HR0_1.out HB.out)); (case side2 => exact HC0_1.out); (case side3 => exact cP ((Kd.N_reads' HO511.out).2.2)); (case side4 => exact (Kd.N_reads' HO511.out).2.1); rintro e w16 ⟨rfl, hb⟩; refine ⟨_, rfl, ?_⟩; have n0_ := Aside0.mk (Kd.V_below (by (with_reducible repeat (first | apply Kd.V_alloc | apply Kd.V_drewN | apply Kd.V_drew)); exact HO1_3.out) hb); have n1_ := Aside0.mk (Kd.N_below (by (with_reducible repeat (first | apply Kd.N_alloc | apply Kd.N_drewN | apply Kd.N_drew)); exact HO511.out) hb); have n2_ := Aside0.mk (blkB BK507.out hb); have n3_ := Aside0.mk (blkB BK508.out hb); have n4_ := Aside0.mk (below_step (bW) hb); clear HO1_3 HO511 BK507 BK508 HB; have HO1_3 := n0_; have HO511 := n1_; have BK507 := n2_; have BK508 := n3_; have HB := n4_; clear n0_ n1_ n2_ n3_ n4_; (try clear hb); (try clear hb2); (try clear hk); (try clear hi)))
   have n0_ := Aside0.mk (Kd.V_drew HO1_3.out)
   have n1_ := Aside0.mk (Kd.N_drew HO511.out)
   have n2_ := Aside0.mk (blk_drew BK507.out)
   have n3_ := Aside0.mk (blk_drew BK508.out)
   have n4_ := Aside0.mk (below_drew1 HB.out)
   clear HO1_3 HO511 BK507 BK508 HB; have HO1_3 := n0_; have HO511 := n1_; have BK507 := n2_; have BK508 := n3_; have HB := n4_; clear n0_ n1_ n2_ n3_ n4_
   refine start_ (n := 5) (S := fun w' => w'.cell? ⟨gb508, 0, none⟩ = some (.int .i64 a1_0) ∧ w'.cell? ⟨gb508, 1, none⟩ = some (.int .i64 a1_1) ∧ w'.cell? ⟨gb508, 2, none⟩ = some (.int .i64 a1_2) ∧ w'.cell? ⟨gb508, 3, none⟩ = some (.slice A1_3 l1_3.length c1_3) ∧ w'.cell? ⟨gb507, 0, none⟩ = some (.int .i64 a0_0) ∧ w'.cell? ⟨gb507, 1, none⟩ = some (.slice A0_1 l0_1.length c0_1)) (ds := []) #[false, false, false, false, false] (by kernel_rfl) rfl rfl ⟨(blk_cell BK508.out 0).trans rfl, (blk_cell BK508.out 1).trans rfl, (blk_cell BK508.out 2).trans rfl, (blk_cell BK508.out 3).trans rfl, (blk_cell BK507.out 0).trans rfl, (blk_cell BK507.out 1).trans rfl⟩ (fun hHeld => ?_)
   generalize w16.drew = w17 at HO1_3 HO511 BK507 BK508 HB hHeld ⊢
   refine takeS (i := 0) (N := some 15) (by kernel_rfl) hHeld ?_
   refine takeS (i := 2) (N := some 17) (by kernel_rfl) hHeld ?_
   refine one_ (i := 1) (N := some 16) #[true, true, true, false, false] rfl rfl (by kernel_rfl) (by decide) (fun K hK => ?_)
   refine goes_ Tryd.func69 (by kernel_rfl) rfl #[.agg #[.int .i64 a1_0, .int .i64 a1_1, .int .i64 a1_2, .slice A1_3 l1_3.length c1_3]] (by rfl) rfl rfl (by (try simp only [List.map_toArray, List.map_cons, List.map_nil]); first | done | rfl | (simp only [List.length_drop, List.length_take]; rfl)) ?_
   with_reducible refine (impl_machineOf.calls k a1_0 a1_1 a1_2 (fun k_ => ((((P1_3_ k_ ∨ w.heap.size ≤ k_) ∧ k_ ≠ gb507) ∧ k_ ≠ gb508) ∧ some k_ ≠ (.slice Ao15 y509.length co15 : Value).ownBlock)) _ _ l1_3 t513 t514 t515 t518 _ ?side1 A5.out).mono ?_
   (case side1 => exact HO1_3.out)
   rintro e w18 ⟨v516, v519, rfl, ho0, ho1, hb⟩
   refine ⟨_, rfl, ?_⟩
   have n0_ := Aside0.mk (Kd.V_elder' (by (with_reducible repeat (first | apply Kd.V_alloc | apply Kd.V_drewN | apply Kd.V_drew)); exact HO1_3.out) (Kd.R_base ho0) hb)
   have n1_ := Aside0.mk (Kd.N_elder' (by (with_reducible repeat (first | apply Kd.N_alloc | apply Kd.N_drewN | apply Kd.N_drew)); exact HO511.out) (Kd.R_base ho0) hb)
   have n2_ := Aside0.mk (Kd.R_lower (Kd.R_newM (M := fun k_ => (w.heap.size ≤ k_)) (Kd.R_mono (ok' := fun k_ => True) ho0 (fun _ hk_ => trivial)) (below_size (bW)) (fun k_ h_ => h_)) (below_size (bW)))
   have n3_ := Aside0.mk (Kd.V_lower (Kd.V_mono (ok' := fun k_ => (P1_3_ k_ ∨ w.heap.size ≤ k_) ∧ some k_ ≠ (v516 : Value).ownBlock ∧ some k_ ≠ (.slice Ao15 y509.length co15 : Value).ownBlock ∧ k_ ≠ gb507 ∧ k_ ≠ gb508) ho1 (fun k_ hk_ => ⟨Or.elim hk_.1 (fun hs_ => hs_.1.1.1) (fun hn_ => (.inr (Nat.le_trans (below_size (bW)) hn_))), hk_.2, Or.elim hk_.1 (fun hs_ => hs_.2) (fun hn_ => (Kd.fresh' (Kd.N_lt (by (with_reducible repeat (first | apply Kd.N_alloc | apply Kd.N_drewN | apply Kd.N_drew)); exact HO511.out)) k_ hn_)), Or.elim hk_.1 (fun hs_ => hs_.1.1.2) (fun hn_ => (Kd.freshB (g := gb507) (o := .cells #[.int .i64 a0_0, .slice A0_1 l0_1.length c0_1] 29 (0, 0)) (bP BK507.out) k_ hn_)), Or.elim hk_.1 (fun hs_ => hs_.1.2) (fun hn_ => (Kd.freshB (g := gb508) (o := .cells #[.int .i64 a1_0, .int .i64 a1_1, .int .i64 a1_2, .slice A1_3 l1_3.length c1_3] 48 (0, 0)) (bP BK508.out) k_ hn_))⟩)) (below_size (bW)))
   have n4_ := Aside0.mk (blkB BK507.out hb)
   have n5_ := Aside0.mk (blkB BK508.out hb)
   have n6_ := Aside0.mk (below_step (bW) hb)
   clear HO1_3 HO511 BK507 BK508 HB; have HO1_3 := n0_; have HO511 := n1_; have HO517 := n2_; have HO520 := n3_; have BK507 := n4_; have BK508 := n5_; have HB := n6_; clear n0_ n1_ n2_ n3_ n4_ n5_ n6_
   (try clear hb)
   (try clear hb2)
   (try clear hk)
   (try clear hi)
   (try clear ho0)
   (try clear ho1)
   obtain ⟨Ao19, co19, eo19⟩ := Kd.R_slice HO517.out
   (first | subst eo19 | (injection eo19 with f1_ f2_ f3_; have f4_ := f1_.symm; have f5_ := f3_.symm; clear f1_ f2_ f3_; subst f4_; subst f5_))
   obtain ⟨Ao20, co20, eo20⟩ := Kd.V_slice HO520.out
   (first | subst eo20 | (injection eo20 with f1_ f2_ f3_; have f4_ := f1_.symm; have f5_ := f3_.symm; clear f1_ f2_ f3_; subst f4_; subst f5_))
   refine hK.out _ _ ⟨(blk_cell BK508.out 0).trans rfl, (blk_cell BK508.out 1).trans rfl, (blk_cell BK508.out 2).trans rfl, (blk_cell BK508.out 3).trans rfl, (blk_cell BK507.out 0).trans rfl, (blk_cell BK507.out 1).trans rfl⟩ (fun hHeld => ?_)
   clear hK K
   refine norm_ (a' := ?_) ?_ ?_
   rotate_left
   ·show Act.put _ (some 16) _ = _
    simp only [Act.put, List.setIfInBounds_toArray, List.set_cons_zero, List.set_cons_succ, i64_w, i32_w]
    rfl
   refine one_ (i := 3) (N := some 18) #[true, true, true, true, false] rfl rfl (by kernel_rfl) (by decide) (fun K hK => ?_)
   refine goes_ Tryd.func70 (by kernel_rfl) rfl #[.agg #[.int .i64 t513, .int .i64 t514, .slice Ao19 t515.length co19, .slice Ao20 t518.length co20], .agg #[.int .i64 a0_0, .slice A0_1 l0_1.length c0_1]] (by rfl) rfl rfl (by (try simp only [List.map_toArray, List.map_cons, List.map_nil]); first | done | rfl | (simp only [List.length_drop, List.length_take]; rfl)) ?_
   with_reducible refine (impl_machine_diamondFault.calls k t513 t514 _ _ t515 _ _ t518 a0_0 _ _ l0_1 t521 _ ?side1 ?side2 ?side3 ?side4 ?side5 ?side6 A6.out).mono ?_
   (case side1 => exact cP ((Kd.R_reads' HO517.out).2.2))
   (case side2 => exact (Kd.R_reads' HO517.out).2.1)
   (case side3 => exact cP ((Kd.V_reads' HO520.out).2.2))
   (case side4 => exact (Kd.V_reads' HO520.out).2.1)
   (case side5 => exact cP (Kd.C_below HR0_1.out HB.out))
   (case side6 => exact HC0_1.out)
   rintro e w21 ⟨v522, rfl, ho0, hb, hnl⟩
   refine ⟨_, rfl, ?_⟩
   have hq522 : ∀ W, (binOp .eql 22 (.slice none 0 0) (.slice none 0 0)).run Tryd.prog W = .ok (.bool true) W := fun W => Lib.run_eql_slice_nil (P := Tryd.prog) W 22 2 none 0 0 0 0 Tryd.underlying22
   have hz_ := hnl (eq_of_beq (by assumption))
   subst hz_
   clear hnl
   have n0_ := Aside0.mk (Kd.V_elder' (by (with_reducible repeat (first | apply Kd.V_alloc | apply Kd.V_drewN | apply Kd.V_drew)); exact HO1_3.out) (Kd.R_base ho0) hb)
   have n1_ := Aside0.mk (Kd.N_elder' (by (with_reducible repeat (first | apply Kd.N_alloc | apply Kd.N_drewN | apply Kd.N_drew)); exact HO511.out) (Kd.R_base ho0) hb)
   have n2_ := Aside0.mk (Kd.R_below (rP HO517.out) hb)
   have n3_ := Aside0.mk (Kd.V_elder' (by (with_reducible repeat (first | apply Kd.V_alloc | apply Kd.V_drewN | apply Kd.V_drew)); exact HO520.out) (Kd.R_base ho0) hb)
   have n4_ := Aside0.mk (Kd.R_lower (Kd.R_newM (M := fun k_ => (w.heap.size ≤ k_)) ho0 (below_size (bW)) (fun k_ h_ => h_)) (below_size (bW)))
   have n5_ := Aside0.mk (blkB BK507.out hb)
   have n6_ := Aside0.mk (blkB BK508.out hb)
   have n7_ := Aside0.mk (below_step (bW) hb)
   clear HO1_3 HO511 HO517 HO520 BK507 BK508 HB; have HO1_3 := n0_; have HO511 := n1_; have HO517 := n2_; have HO520 := n3_; have HO523 := n4_; have BK507 := n5_; have BK508 := n6_; have HB := n7_; clear n0_ n1_ n2_ n3_ n4_ n5_ n6_ n7_
   (try clear hb)
   (try clear hb2)
   (try clear hk)
   (try clear hi)
   (try clear ho0)
   refine hK.out _ _ ⟨(blk_cell BK508.out 0).trans rfl, (blk_cell BK508.out 1).trans rfl, (blk_cell BK508.out 2).trans rfl, (blk_cell BK508.out 3).trans rfl, (blk_cell BK507.out 0).trans rfl, (blk_cell BK507.out 1).trans rfl⟩ (fun hHeld => ?_)
   clear hK K
   refine norm_ (a' := ?_) ?_ ?_
   rotate_left
   ·show Act.put _ (some 18) _ = _
    simp only [Act.put, List.setIfInBounds_toArray, List.set_cons_zero, List.set_cons_succ, i64_w, i32_w]
    rfl
   refine pureS (i := 4) (N := some 7) (by kernel_rfl) ?_
   refine done_ (by kernel_rfl) ?_
   try go_wp2
   go_ret2
   exact ⟨_, eW, by first | exact Kd.R_nil _ _ _ _ _ | exact Kd.N_nil _ _ _ _ _ | exact Kd.V_nil _ _ _ _ _ | exact Kd.Q_nil _ _ _ _ _ | exact Kd.S_nil _ _ _ _ _, bW⟩
  ·rw [if_neg c7] at H
   have c7b0 : (t521 == []) = false := beq_eq_false_iff_ne.mpr c7
   have c7b1 : (t521 != []) = true := bne_iff_ne.mpr c7
   simp only [Option.some.injEq, Prod.mk.injEq] at H
   obtain ⟨rfl, rfl⟩ := H
   go_enter Tryd.func31, Tryd.ntmps31
   try go_wp2_with (first | ((with_reducible refine gate_dst (N := 2) rfl ?_); refine boxS (N := 2) (cs := #[.int .i64 a0_0, .slice A0_1 l0_1.length c0_1]) (t := 29) ?_; intro gb507 hg w22 hbox hb; have n0_ := Aside0.mk (Kd.V_below (Kd.V_elderB (by (with_reducible repeat (first | apply Kd.V_alloc | apply Kd.V_drewN | apply Kd.V_drew)); exact HO1_3.out) gb507 (Nat.le_of_eq hg.symm)) hb); have n1_ := Aside0.mk (below_step (bW) hb); have n2_ := Aside0.mk (hbox); have n3_ := geW (w := w) hg; have n4_ := geW (w := w) hg; clear HO1_3 HB; have HO1_3 := n0_; have HB := n1_; have BK507 := n2_; have GW507 := n3_; have GE507 := n4_; clear n0_ n1_ n2_ n3_ n4_ hb hbox hg) | ((with_reducible refine gate_dst (N := 3) rfl ?_); refine boxS (N := 3) (cs := #[.int .i64 a1_0, .int .i64 a1_1, .int .i64 a1_2, .slice A1_3 l1_3.length c1_3]) (t := 48) ?_; intro gb508 hg w23 hbox hb; have n0_ := Aside0.mk (Kd.V_below (Kd.V_elderB (by (with_reducible repeat (first | apply Kd.V_alloc | apply Kd.V_drewN | apply Kd.V_drew)); exact HO1_3.out) gb508 (Nat.le_of_eq hg.symm)) hb); have n1_ := Aside0.mk (blkB BK507.out hb); have n2_ := Aside0.mk (below_step (bW) hb); have n3_ := Aside0.mk (hbox); have n4_ := geW (w := w) hg; have n5_ := geW (w := w) hg; have n6_ := Aside0.mk ((by rw [hg]; exact Nat.ne_of_lt (blk_lt (g := gb507) (o := .cells #[.int .i64 a0_0, .slice A0_1 l0_1.length c0_1] 29 (0, 0)) (bP BK507.out)) : gb507 ≠ gb508)); have n7_ := Aside0.mk ((by rw [hg]; exact Nat.ne_of_gt (blk_lt (g := gb507) (o := .cells #[.int .i64 a0_0, .slice A0_1 l0_1.length c0_1] 29 (0, 0)) (bP BK507.out)) : gb508 ≠ gb507)); clear HO1_3 BK507 HB; have HO1_3 := n0_; have BK507 := n1_; have HB := n2_; have BK508 := n3_; have GW508 := n4_; have GE508 := n5_; have NB507_508 := n6_; have NB508_507 := n7_; clear n0_ n1_ n2_ n3_ n4_ n5_ n6_ n7_ hb hbox hg; have hnb24 := NB507_508.out; have hnc24 := NB508_507.out; obtain ⟨hcz25_0, hcz25_1⟩ := cells2 BK507.out; obtain ⟨hfz25_0, hfz25_1⟩ := frz2 BK507.out; obtain ⟨hcz26_0, hcz26_1, hcz26_2, hcz26_3⟩ := cells4 BK508.out; obtain ⟨hfz26_0, hfz26_1, hfz26_2, hfz26_3⟩ := frz4 BK508.out) | ((with_reducible refine gate_dst (N := 10) rfl ?_); refine Kd.N_lit k48 _ 48 ?hg (N' := 10) ?hd (xs := ([(⟨a1_0, a1_1, a1_2, l1_3⟩ : S48)] : List (S48))) (inner := [.int .i64 a1_0, .int .i64 a1_1, .int .i64 a1_2, .slice A1_3 l1_3.length c1_3]) (ok := (fun k_ => (P1_3_ k_ ∨ w.heap.size ≤ k_) ∧ k_ ≠ gb507 ∧ k_ ≠ gb508)) (okp := (fun k_ => (P1_3_ k_ ∨ w.heap.size ≤ k_) ∧ k_ ≠ gb507 ∧ k_ ≠ gb508)) ?hr ?hp (fun _ hk => hk) ((show ∀ k_, w23.heap.size ≤ k_ → (fun k_ => (P1_3_ k_ ∨ w.heap.size ≤ k_) ∧ k_ ≠ gb507 ∧ k_ ≠ gb508) k_ from fun k_ hk => ⟨(.inr (Nat.le_trans (below_size (bW)) hk)), Kd.freshB (g := gb507) (o := .cells #[.int .i64 a0_0, .slice A0_1 l0_1.length c0_1] 29 (0, 0)) (bP BK507.out) k_ hk, Kd.freshB (g := gb508) (o := .cells #[.int .i64 a1_0, .int .i64 a1_1, .int .i64 a1_2, .slice A1_3 l1_3.length c1_3] 48 (0, 0)) (bP BK508.out) k_ hk⟩) _ (Nat.le_refl _)) (Below.refl _ _) (Nat.le_refl _) (by simp) ?_; (case hd => rfl); (case hg => rfl); (case hr => first | (go_simp; done) | (go_simp; rfl)); (case hp => exact (Reps.c4 (show Kd.FK k48 _ _ (⟨a1_0, a1_1, a1_2, l1_3⟩ : S48) [.int .i64 a1_0, .int .i64 a1_1, .int .i64 a1_2, .slice A1_3 l1_3.length c1_3] from (k48_mkF _ _ (⟨a1_0, a1_1, a1_2, l1_3⟩ : S48) (Kd.V_reads' (Kd.V_mono (ok' := (fun k_ => (P1_3_ k_ ∨ w.heap.size ≤ k_) ∧ k_ ≠ gb507 ∧ k_ ≠ gb508)) (HO1_3.out) (fun k_ hk => ⟨hk.1.1, ⟨hk.1.2, hk.2⟩⟩))).2.1 (Kd.V_F (Kd.V_mono (ok' := (fun k_ => (P1_3_ k_ ∨ w.heap.size ≤ k_) ∧ k_ ≠ gb507 ∧ k_ ≠ gb508)) (HO1_3.out) (fun k_ hk => ⟨hk.1.1, ⟨hk.1.2, hk.2⟩⟩))))) (Reps.none _ _))); intro v510 w27 ho28 hb hg_ hnew_; clear hg_ hnew_; (first | rw [← Ny509.out] at ho28 | (simp only [Int.reduceToNat] at ho28; rw [← Ny509.out] at ho28)); have n0_ := Aside0.mk (Kd.V_elder' (by (with_reducible repeat (first | apply Kd.V_alloc | apply Kd.V_drewN | apply Kd.V_drew)); exact HO1_3.out) (Kd.N_base ho28) hb); have n1_ := Aside0.mk (Kd.N_lower ho28 (below_size (bW))); have n2_ := Aside0.mk (blkB BK507.out hb); have n3_ := Aside0.mk (blkB BK508.out hb); have n4_ := Aside0.mk (below_step (bW) hb); clear HO1_3 BK507 BK508 HB; have HO1_3 := n0_; have HO511 := n1_; have BK507 := n2_; have BK508 := n3_; have HB := n4_; clear n0_ n1_ n2_ n3_ n4_ hb ho28; obtain ⟨Ao29, co29, eo29⟩ := Kd.N_slice HO511.out; subst eo29) | ((with_reducible refine gate_callee (f := 68) rfl ?_); refine goesS (some 11) Tryd.func68 #[.agg #[.int .i64 a0_0, .slice A0_1 l0_1.length c0_1], .slice Ao29 y509.length co29] ?_; (with_reducible refine (impl_checkOver.calls k a0_0 _ _ l0_1 _ _ y509 t512 _ ?side1 ?side2 ?side3 ?side4 A3.out (tabW HTab.out)).mono ?_); (case side1 => exact cP (Kd.C_below HR0_1.out HB.out)); (case side2 => exact HC0_1.out); (case side3 => exact cP ((Kd.N_reads' HO511.out).2.2)); (case side4 => exact (Kd.N_reads' HO511.out).2.1); rintro e w30 ⟨rfl, hb⟩; refine ⟨_, rfl, ?_⟩; have n0_ := Aside0.mk (Kd.V_below (by (with_reducible repeat (first | apply Kd.V_alloc | apply Kd.V_drewN | apply Kd.V_drew)); exact HO1_3.out) hb); have n1_ := Aside0.mk (Kd.N_below (by (with_reducible repeat (first | apply Kd.N_alloc | apply Kd.N_drewN | apply Kd.N_drew)); exact HO511.out) hb); have n2_ := Aside0.mk (blkB BK507.out hb); have n3_ := Aside0.mk (blkB BK508.out hb); have n4_ := Aside0.mk (below_step (bW) hb); clear HO1_3 HO511 BK507 BK508 HB; have HO1_3 := n0_; have HO511 := n1_; have BK507 := n2_; have BK508 := n3_; have HB := n4_; clear n0_ n1_ n2_ n3_ n4_; (try clear hb); (try clear hb2); (try clear hk); (try clear hi)))
   have n0_ := Aside0.mk (Kd.V_drew HO1_3.out)
   have n1_ := Aside0.mk (Kd.N_drew HO511.out)
   have n2_ := Aside0.mk (blk_drew BK507.out)
   have n3_ := Aside0.mk (blk_drew BK508.out)
   have n4_ := Aside0.mk (below_drew1 HB.out)
   clear HO1_3 HO511 BK507 BK508 HB; have HO1_3 := n0_; have HO511 := n1_; have BK507 := n2_; have BK508 := n3_; have HB := n4_; clear n0_ n1_ n2_ n3_ n4_
   refine start_ (n := 5) (S := fun w' => w'.cell? ⟨gb508, 0, none⟩ = some (.int .i64 a1_0) ∧ w'.cell? ⟨gb508, 1, none⟩ = some (.int .i64 a1_1) ∧ w'.cell? ⟨gb508, 2, none⟩ = some (.int .i64 a1_2) ∧ w'.cell? ⟨gb508, 3, none⟩ = some (.slice A1_3 l1_3.length c1_3) ∧ w'.cell? ⟨gb507, 0, none⟩ = some (.int .i64 a0_0) ∧ w'.cell? ⟨gb507, 1, none⟩ = some (.slice A0_1 l0_1.length c0_1)) (ds := []) #[false, false, false, false, false] (by kernel_rfl) rfl rfl ⟨(blk_cell BK508.out 0).trans rfl, (blk_cell BK508.out 1).trans rfl, (blk_cell BK508.out 2).trans rfl, (blk_cell BK508.out 3).trans rfl, (blk_cell BK507.out 0).trans rfl, (blk_cell BK507.out 1).trans rfl⟩ (fun hHeld => ?_)
   generalize w30.drew = w31 at HO1_3 HO511 BK507 BK508 HB hHeld ⊢
   refine takeS (i := 0) (N := some 15) (by kernel_rfl) hHeld ?_
   refine takeS (i := 2) (N := some 17) (by kernel_rfl) hHeld ?_
   refine one_ (i := 1) (N := some 16) #[true, true, true, false, false] rfl rfl (by kernel_rfl) (by decide) (fun K hK => ?_)
   refine goes_ Tryd.func69 (by kernel_rfl) rfl #[.agg #[.int .i64 a1_0, .int .i64 a1_1, .int .i64 a1_2, .slice A1_3 l1_3.length c1_3]] (by rfl) rfl rfl (by (try simp only [List.map_toArray, List.map_cons, List.map_nil]); first | done | rfl | (simp only [List.length_drop, List.length_take]; rfl)) ?_
   with_reducible refine (impl_machineOf.calls k a1_0 a1_1 a1_2 (fun k_ => ((((P1_3_ k_ ∨ w.heap.size ≤ k_) ∧ k_ ≠ gb507) ∧ k_ ≠ gb508) ∧ some k_ ≠ (.slice Ao29 y509.length co29 : Value).ownBlock)) _ _ l1_3 t513 t514 t515 t518 _ ?side1 A5.out).mono ?_
   (case side1 => exact HO1_3.out)
   rintro e w32 ⟨v516, v519, rfl, ho0, ho1, hb⟩
   refine ⟨_, rfl, ?_⟩
   have n0_ := Aside0.mk (Kd.V_elder' (by (with_reducible repeat (first | apply Kd.V_alloc | apply Kd.V_drewN | apply Kd.V_drew)); exact HO1_3.out) (Kd.R_base ho0) hb)
   have n1_ := Aside0.mk (Kd.N_elder' (by (with_reducible repeat (first | apply Kd.N_alloc | apply Kd.N_drewN | apply Kd.N_drew)); exact HO511.out) (Kd.R_base ho0) hb)
   have n2_ := Aside0.mk (Kd.R_lower (Kd.R_newM (M := fun k_ => (w.heap.size ≤ k_)) (Kd.R_mono (ok' := fun k_ => True) ho0 (fun _ hk_ => trivial)) (below_size (bW)) (fun k_ h_ => h_)) (below_size (bW)))
   have n3_ := Aside0.mk (Kd.V_lower (Kd.V_mono (ok' := fun k_ => (P1_3_ k_ ∨ w.heap.size ≤ k_) ∧ some k_ ≠ (v516 : Value).ownBlock ∧ some k_ ≠ (.slice Ao29 y509.length co29 : Value).ownBlock ∧ k_ ≠ gb507 ∧ k_ ≠ gb508) ho1 (fun k_ hk_ => ⟨Or.elim hk_.1 (fun hs_ => hs_.1.1.1) (fun hn_ => (.inr (Nat.le_trans (below_size (bW)) hn_))), hk_.2, Or.elim hk_.1 (fun hs_ => hs_.2) (fun hn_ => (Kd.fresh' (Kd.N_lt (by (with_reducible repeat (first | apply Kd.N_alloc | apply Kd.N_drewN | apply Kd.N_drew)); exact HO511.out)) k_ hn_)), Or.elim hk_.1 (fun hs_ => hs_.1.1.2) (fun hn_ => (Kd.freshB (g := gb507) (o := .cells #[.int .i64 a0_0, .slice A0_1 l0_1.length c0_1] 29 (0, 0)) (bP BK507.out) k_ hn_)), Or.elim hk_.1 (fun hs_ => hs_.1.2) (fun hn_ => (Kd.freshB (g := gb508) (o := .cells #[.int .i64 a1_0, .int .i64 a1_1, .int .i64 a1_2, .slice A1_3 l1_3.length c1_3] 48 (0, 0)) (bP BK508.out) k_ hn_))⟩)) (below_size (bW)))
   have n4_ := Aside0.mk (blkB BK507.out hb)
   have n5_ := Aside0.mk (blkB BK508.out hb)
   have n6_ := Aside0.mk (below_step (bW) hb)
   clear HO1_3 HO511 BK507 BK508 HB; have HO1_3 := n0_; have HO511 := n1_; have HO517 := n2_; have HO520 := n3_; have BK507 := n4_; have BK508 := n5_; have HB := n6_; clear n0_ n1_ n2_ n3_ n4_ n5_ n6_
   (try clear hb)
   (try clear hb2)
   (try clear hk)
   (try clear hi)
   (try clear ho0)
   (try clear ho1)
   obtain ⟨Ao33, co33, eo33⟩ := Kd.R_slice HO517.out
   (first | subst eo33 | (injection eo33 with f1_ f2_ f3_; have f4_ := f1_.symm; have f5_ := f3_.symm; clear f1_ f2_ f3_; subst f4_; subst f5_))
   obtain ⟨Ao34, co34, eo34⟩ := Kd.V_slice HO520.out
   (first | subst eo34 | (injection eo34 with f1_ f2_ f3_; have f4_ := f1_.symm; have f5_ := f3_.symm; clear f1_ f2_ f3_; subst f4_; subst f5_))
   refine hK.out _ _ ⟨(blk_cell BK508.out 0).trans rfl, (blk_cell BK508.out 1).trans rfl, (blk_cell BK508.out 2).trans rfl, (blk_cell BK508.out 3).trans rfl, (blk_cell BK507.out 0).trans rfl, (blk_cell BK507.out 1).trans rfl⟩ (fun hHeld => ?_)
   clear hK K
   refine norm_ (a' := ?_) ?_ ?_
   rotate_left
   ·show Act.put _ (some 16) _ = _
    simp only [Act.put, List.setIfInBounds_toArray, List.set_cons_zero, List.set_cons_succ, i64_w, i32_w]
    rfl
   refine one_ (i := 3) (N := some 18) #[true, true, true, true, false] rfl rfl (by kernel_rfl) (by decide) (fun K hK => ?_)
   refine goes_ Tryd.func70 (by kernel_rfl) rfl #[.agg #[.int .i64 t513, .int .i64 t514, .slice Ao33 t515.length co33, .slice Ao34 t518.length co34], .agg #[.int .i64 a0_0, .slice A0_1 l0_1.length c0_1]] (by rfl) rfl rfl (by (try simp only [List.map_toArray, List.map_cons, List.map_nil]); first | done | rfl | (simp only [List.length_drop, List.length_take]; rfl)) ?_
   with_reducible refine (impl_machine_diamondFault.calls k t513 t514 _ _ t515 _ _ t518 a0_0 _ _ l0_1 t521 _ ?side1 ?side2 ?side3 ?side4 ?side5 ?side6 A6.out).mono ?_
   (case side1 => exact cP ((Kd.R_reads' HO517.out).2.2))
   (case side2 => exact (Kd.R_reads' HO517.out).2.1)
   (case side3 => exact cP ((Kd.V_reads' HO520.out).2.2))
   (case side4 => exact (Kd.V_reads' HO520.out).2.1)
   (case side5 => exact cP (Kd.C_below HR0_1.out HB.out))
   (case side6 => exact HC0_1.out)
   rintro e w35 ⟨v522, rfl, ho0, hb, hnl⟩
   refine ⟨_, rfl, ?_⟩
   have hq522 : ∀ W g_ n_ c_, (binOp .eql 22 (.slice (some g_) n_ c_) (.slice none 0 0)).run Tryd.prog W = .ok (.bool false) W := fun W g_ n_ c_ => Lib.run_eql_slice_nil (P := Tryd.prog) W 22 2 (some g_) n_ c_ 0 0 Tryd.underlying22
   obtain ⟨go522, co522, hz_, _, _, _⟩ := Kd.R_form ho0 (ne_pos (by assumption))
   subst hz_
   clear hnl
   have n0_ := Aside0.mk (Kd.V_elder' (by (with_reducible repeat (first | apply Kd.V_alloc | apply Kd.V_drewN | apply Kd.V_drew)); exact HO1_3.out) (Kd.R_base ho0) hb)
   have n1_ := Aside0.mk (Kd.N_elder' (by (with_reducible repeat (first | apply Kd.N_alloc | apply Kd.N_drewN | apply Kd.N_drew)); exact HO511.out) (Kd.R_base ho0) hb)
   have n2_ := Aside0.mk (Kd.R_below (rP HO517.out) hb)
   have n3_ := Aside0.mk (Kd.V_elder' (by (with_reducible repeat (first | apply Kd.V_alloc | apply Kd.V_drewN | apply Kd.V_drew)); exact HO520.out) (Kd.R_base ho0) hb)
   have n4_ := Aside0.mk (Kd.R_lower (Kd.R_newM (M := fun k_ => (w.heap.size ≤ k_)) ho0 (below_size (bW)) (fun k_ h_ => h_)) (below_size (bW)))
   have n5_ := Aside0.mk (blkB BK507.out hb)
   have n6_ := Aside0.mk (blkB BK508.out hb)
   have n7_ := Aside0.mk (below_step (bW) hb)
   clear HO1_3 HO511 HO517 HO520 BK507 BK508 HB; have HO1_3 := n0_; have HO511 := n1_; have HO517 := n2_; have HO520 := n3_; have HO523 := n4_; have BK507 := n5_; have BK508 := n6_; have HB := n7_; clear n0_ n1_ n2_ n3_ n4_ n5_ n6_ n7_
   (try clear hb)
   (try clear hb2)
   (try clear hk)
   (try clear hi)
   (try clear ho0)
   refine hK.out _ _ ⟨(blk_cell BK508.out 0).trans rfl, (blk_cell BK508.out 1).trans rfl, (blk_cell BK508.out 2).trans rfl, (blk_cell BK508.out 3).trans rfl, (blk_cell BK507.out 0).trans rfl, (blk_cell BK507.out 1).trans rfl⟩ (fun hHeld => ?_)
   clear hK K
   refine norm_ (a' := ?_) ?_ ?_
   rotate_left
   ·show Act.put _ (some 18) _ = _
    simp only [Act.put, List.setIfInBounds_toArray, List.set_cons_zero, List.set_cons_succ, i64_w, i32_w]
    rfl
   refine pureS (i := 4) (N := some 7) (by kernel_rfl) ?_
   refine done_ (by kernel_rfl) ?_
   try go_wp2
   go_ret2
   exact ⟨_, eW, by (with_reducible repeat (first | apply Kd.R_alloc | apply Kd.R_drewN | apply Kd.R_drew)); exact Kd.R_mono HO523.out (fun _ hk => hk.1), bW⟩
 ·rw [if_neg c4] at H
  have c4b0 : (t512 == 0) = false := beq_eq_false_iff_ne.mpr c4
  have c4b1 : (t512 != 0) = true := bne_iff_ne.mpr c4
  simp only [Option.some.injEq, Prod.mk.injEq] at H
  obtain ⟨rfl, rfl⟩ := H
  go_enter Tryd.func31, Tryd.ntmps31
  go_wp2_with (first | ((with_reducible refine gate_dst (N := 2) rfl ?_); refine boxS (N := 2) (cs := #[.int .i64 a0_0, .slice A0_1 l0_1.length c0_1]) (t := 29) ?_; intro gb507 hg w36 hbox hb; have n0_ := Aside0.mk (Kd.V_below (Kd.V_elderB (by (with_reducible repeat (first | apply Kd.V_alloc | apply Kd.V_drewN | apply Kd.V_drew)); exact HO1_3.out) gb507 (Nat.le_of_eq hg.symm)) hb); have n1_ := Aside0.mk (below_step (bW) hb); have n2_ := Aside0.mk (hbox); have n3_ := geW (w := w) hg; have n4_ := geW (w := w) hg; clear HO1_3 HB; have HO1_3 := n0_; have HB := n1_; have BK507 := n2_; have GW507 := n3_; have GE507 := n4_; clear n0_ n1_ n2_ n3_ n4_ hb hbox hg) | ((with_reducible refine gate_dst (N := 3) rfl ?_); refine boxS (N := 3) (cs := #[.int .i64 a1_0, .int .i64 a1_1, .int .i64 a1_2, .slice A1_3 l1_3.length c1_3]) (t := 48) ?_; intro gb508 hg w37 hbox hb; have n0_ := Aside0.mk (Kd.V_below (Kd.V_elderB (by (with_reducible repeat (first | apply Kd.V_alloc | apply Kd.V_drewN | apply Kd.V_drew)); exact HO1_3.out) gb508 (Nat.le_of_eq hg.symm)) hb); have n1_ := Aside0.mk (blkB BK507.out hb); have n2_ := Aside0.mk (below_step (bW) hb); have n3_ := Aside0.mk (hbox); have n4_ := geW (w := w) hg; have n5_ := geW (w := w) hg; have n6_ := Aside0.mk ((by rw [hg]; exact Nat.ne_of_lt (blk_lt (g := gb507) (o := .cells #[.int .i64 a0_0, .slice A0_1 l0_1.length c0_1] 29 (0, 0)) (bP BK507.out)) : gb507 ≠ gb508)); have n7_ := Aside0.mk ((by rw [hg]; exact Nat.ne_of_gt (blk_lt (g := gb507) (o := .cells #[.int .i64 a0_0, .slice A0_1 l0_1.length c0_1] 29 (0, 0)) (bP BK507.out)) : gb508 ≠ gb507)); clear HO1_3 BK507 HB; have HO1_3 := n0_; have BK507 := n1_; have HB := n2_; have BK508 := n3_; have GW508 := n4_; have GE508 := n5_; have NB507_508 := n6_; have NB508_507 := n7_; clear n0_ n1_ n2_ n3_ n4_ n5_ n6_ n7_ hb hbox hg; have hnb38 := NB507_508.out; have hnc38 := NB508_507.out; obtain ⟨hcz39_0, hcz39_1⟩ := cells2 BK507.out; obtain ⟨hfz39_0, hfz39_1⟩ := frz2 BK507.out; obtain ⟨hcz40_0, hcz40_1, hcz40_2, hcz40_3⟩ := cells4 BK508.out; obtain ⟨hfz40_0, hfz40_1, hfz40_2, hfz40_3⟩ := frz4 BK508.out) | ((with_reducible refine gate_dst (N := 10) rfl ?_); refine Kd.N_lit k48 _ 48 ?hg (N' := 10) ?hd (xs := ([(⟨a1_0, a1_1, a1_2, l1_3⟩ : S48)] : List (S48))) (inner := [.int .i64 a1_0, .int .i64 a1_1, .int .i64 a1_2, .slice A1_3 l1_3.length c1_3]) (ok := (fun k_ => (P1_3_ k_ ∨ w.heap.size ≤ k_) ∧ k_ ≠ gb507 ∧ k_ ≠ gb508)) (okp := (fun k_ => (P1_3_ k_ ∨ w.heap.size ≤ k_) ∧ k_ ≠ gb507 ∧ k_ ≠ gb508)) ?hr ?hp (fun _ hk => hk) ((show ∀ k_, w37.heap.size ≤ k_ → (fun k_ => (P1_3_ k_ ∨ w.heap.size ≤ k_) ∧ k_ ≠ gb507 ∧ k_ ≠ gb508) k_ from fun k_ hk => ⟨(.inr (Nat.le_trans (below_size (bW)) hk)), Kd.freshB (g := gb507) (o := .cells #[.int .i64 a0_0, .slice A0_1 l0_1.length c0_1] 29 (0, 0)) (bP BK507.out) k_ hk, Kd.freshB (g := gb508) (o := .cells #[.int .i64 a1_0, .int .i64 a1_1, .int .i64 a1_2, .slice A1_3 l1_3.length c1_3] 48 (0, 0)) (bP BK508.out) k_ hk⟩) _ (Nat.le_refl _)) (Below.refl _ _) (Nat.le_refl _) (by simp) ?_; (case hd => rfl); (case hg => rfl); (case hr => first | (go_simp; done) | (go_simp; rfl)); (case hp => exact (Reps.c4 (show Kd.FK k48 _ _ (⟨a1_0, a1_1, a1_2, l1_3⟩ : S48) [.int .i64 a1_0, .int .i64 a1_1, .int .i64 a1_2, .slice A1_3 l1_3.length c1_3] from (k48_mkF _ _ (⟨a1_0, a1_1, a1_2, l1_3⟩ : S48) (Kd.V_reads' (Kd.V_mono (ok' := (fun k_ => (P1_3_ k_ ∨ w.heap.size ≤ k_) ∧ k_ ≠ gb507 ∧ k_ ≠ gb508)) (HO1_3.out) (fun k_ hk => ⟨hk.1.1, ⟨hk.1.2, hk.2⟩⟩))).2.1 (Kd.V_F (Kd.V_mono (ok' := (fun k_ => (P1_3_ k_ ∨ w.heap.size ≤ k_) ∧ k_ ≠ gb507 ∧ k_ ≠ gb508)) (HO1_3.out) (fun k_ hk => ⟨hk.1.1, ⟨hk.1.2, hk.2⟩⟩))))) (Reps.none _ _))); intro v510 w41 ho42 hb hg_ hnew_; clear hg_ hnew_; (first | rw [← Ny509.out] at ho42 | (simp only [Int.reduceToNat] at ho42; rw [← Ny509.out] at ho42)); have n0_ := Aside0.mk (Kd.V_elder' (by (with_reducible repeat (first | apply Kd.V_alloc | apply Kd.V_drewN | apply Kd.V_drew)); exact HO1_3.out) (Kd.N_base ho42) hb); have n1_ := Aside0.mk (Kd.N_lower ho42 (below_size (bW))); have n2_ := Aside0.mk (blkB BK507.out hb); have n3_ := Aside0.mk (blkB BK508.out hb); have n4_ := Aside0.mk (below_step (bW) hb); clear HO1_3 BK507 BK508 HB; have HO1_3 := n0_; have HO511 := n1_; have BK507 := n2_; have BK508 := n3_; have HB := n4_; clear n0_ n1_ n2_ n3_ n4_ hb ho42; obtain ⟨Ao43, co43, eo43⟩ := Kd.N_slice HO511.out; subst eo43) | ((with_reducible refine gate_callee (f := 68) rfl ?_); refine goesS (some 11) Tryd.func68 #[.agg #[.int .i64 a0_0, .slice A0_1 l0_1.length c0_1], .slice Ao43 y509.length co43] ?_; (with_reducible refine (impl_checkOver.calls k a0_0 _ _ l0_1 _ _ y509 t512 _ ?side1 ?side2 ?side3 ?side4 A3.out (tabW HTab.out)).mono ?_); (case side1 => exact cP (Kd.C_below HR0_1.out HB.out)); (case side2 => exact HC0_1.out); (case side3 => exact cP ((Kd.N_reads' HO511.out).2.2)); (case side4 => exact (Kd.N_reads' HO511.out).2.1); rintro e w44 ⟨rfl, hb⟩; refine ⟨_, rfl, ?_⟩; have n0_ := Aside0.mk (Kd.V_below (by (with_reducible repeat (first | apply Kd.V_alloc | apply Kd.V_drewN | apply Kd.V_drew)); exact HO1_3.out) hb); have n1_ := Aside0.mk (Kd.N_below (by (with_reducible repeat (first | apply Kd.N_alloc | apply Kd.N_drewN | apply Kd.N_drew)); exact HO511.out) hb); have n2_ := Aside0.mk (blkB BK507.out hb); have n3_ := Aside0.mk (blkB BK508.out hb); have n4_ := Aside0.mk (below_step (bW) hb); clear HO1_3 HO511 BK507 BK508 HB; have HO1_3 := n0_; have HO511 := n1_; have BK507 := n2_; have BK508 := n3_; have HB := n4_; clear n0_ n1_ n2_ n3_ n4_; (try clear hb); (try clear hb2); (try clear hk); (try clear hi)))
  go_ret2
  exact ⟨_, eW, by first | exact Kd.R_nil _ _ _ _ _ | exact Kd.N_nil _ _ _ _ _ | exact Kd.V_nil _ _ _ _ _ | exact Kd.Q_nil _ _ _ _ _ | exact Kd.S_nil _ _ _ _ _, bW⟩
/-! ### laws_markInt64S: function 35 -/
def laws_markInt64S.l0 : Nat → List Int → Int → Int → Option (Int × List Int)
 | 0, _, _, _ => none
 | k + 1, x0, x1, x5 => if x5 < (x0.length : Int) then (if 0 ≤ x5 then (laws_markInt64S.l0 k (x0.set (x5 : Int).toNat x1) (wrap64 (x1 + 1)) (wrap64 (x5 + 1))) else (none)) else (some (x1, x0))
def laws_markInt64S.f (k : Nat) (l0 : List Int) (a1 : Int) : Option (Int × List Int) := laws_markInt64S.l0 k l0 a1 0
set_option maxHeartbeats 8000000 in
set_option maxRecDepth 100000 in
theorem laws_markInt64S.calls (k : Nat) (P0_ : Nat → Prop) (u9000_ : Value) (l0 : List Int) (a1 : Int) (r1 : Int) (r2 : List Int) (w0 w : World) (hB : Below w0.heap.size w0 w) (ho0 : Kd.R (Kd.int .i64) 2 w w0.heap.size P0_ u9000_ l0) (h : laws_markInt64S.f k l0 a1 = some (r1, r2)) :
  Calls Tryd.prog 35 #[u9000_, .int .i64 a1] w fun e w' => e = .returned (.int .i64 r1) ∧ Kd.R (Kd.int .i64) 2 w' w0.heap.size (fun k_ => (P0_ k_ ∨ w.heap.size ≤ k_)) u9000_ r2 ∧ Below w0.heap.size w0 w' ∧ Kept w w' (fun k_ => P0_ k_) := by
 have HO0 := Aside0.mk (show Kd.R (Kd.int .i64) 2 w w0.heap.size (fun k_ => (P0_ k_ ∨ w.heap.size ≤ k_)) u9000_ l0 from Kd.R_mono ho0 (fun k_ hk => (.inl hk)))
 have HK := Aside0.mk (Kept.refl w (fun k_ => P0_ k_))
 have HW0 := Aside0.mk hB.size
 have HB := Aside0.mk hB
 clear hB
 have H : (laws_markInt64S.l0 k l0 a1 0) = some (r1, r2) := h
 clear h
 have H' := Aside0.mk H
 clear H
 go_enter Tryd.func35, Tryd.ntmps35
 go_wp2
 go_loopg [1, 5] k (fun kq v1 v5 w' => ∃ (x0_1 : List Int) (x1_1 : Int) (x5_1 : Int), v1 = .int .i64 x1_1 ∧ v5 = .int .i64 x5_1 ∧ Aside0 (laws_markInt64S.l0 kq x0_1 x1_1 x5_1 = some (r1, r2)) ∧ Aside0 (kq ≤ k) ∧ Aside0 (Kd.R (Kd.int .i64) 2 w' w0.heap.size (fun k_ => (P0_ k_ ∨ w.heap.size ≤ k_)) u9000_ x0_1) ∧ Aside0 (Kept w w' (fun k_ => P0_ k_)) ∧ Aside0 (Below w0.heap.size w0 w'))
 case atStart => exact ⟨(l0), (a1), (0), (eW), (eW), H', ⟨Nat.le_refl _⟩, ⟨(rP HO0.out)⟩, ⟨kW⟩, ⟨bW⟩⟩
 case round =>
  clear H'
  try clear p2
  obtain ⟨x0_1, x1_1, x5_1, rfl, rfl, HA, HK1, HO_0, HK, HB⟩ := hrel
  cases gk with
  | zero => exact absurd HA.out (by simp [laws_markInt64S.l0])
  | succ k1 =>
   have H := HA.out
   clear HA
   simp only [laws_markInt64S.l0] at H
   by_cases c3 : x5_1 < (x0_1.length : Int)
   ·rw [if_pos c3] at H
    have c3b0 : decide (x5_1 < (x0_1.length : Int)) = true := decide_eq_true c3
    clear c3
    by_cases c4 : 0 ≤ x5_1
    ·rw [if_pos c4] at H
     have c4b0 : decide (0 ≤ x5_1) = true := decide_eq_true c4
     clear c4
     obtain ⟨y524, hy524⟩ : ∃ y_ : List Int, y_ = (x0_1.set (x5_1 : Int).toNat x1_1) := ⟨_, rfl⟩
     replace H : (laws_markInt64S.l0 k1 y524 (wrap64 (x1_1 + 1)) (wrap64 (x5_1 + 1))) = some (r1, r2) := by first | (rw [hy524]; with_reducible exact H) | (have H2_ := (Option.bind_some _ _).symm.trans H; rw [hy524]; with_reducible exact H2_) | (have H2_ := (Option.bind_some _ _).symm.trans H; with_reducible exact H2_) | with_reducible exact H | (rw [hy524]; exact H) | exact H
     have Ny524 := Aside0.mk hy524
     clear hy524
     have H' := Aside0.mk H
     clear H
     obtain ⟨Ao6, co6, eo6⟩ := Kd.R_slice HO_0.out
     subst eo6
     have p5 : 0 ≤ (x5_1 : Int) := ofD
     have q5 : (x5_1 : Int) < ((x0_1.length : Int) : Int) := ofD
     obtain ⟨go5, co5, eo5, gb5, gl5, cl5, HG5⟩ := Kd.R_form HO_0.out (by omega)
     (first | cases eo5 | (injection eo5 with ea_ en_ ec_; (first | subst ea_ | (injection ea_ with ea_; subst ea_)); subst ec_; clear en_))
     have GB5 := Aside0.mk gb5
     have GG5 := Aside0.mk HG5
     clear gb5 gl5 HG5
     have HMgo5 := Aside0.mk (show (P0_ go5 ∨ w.heap.size ≤ go5) from (HO_0.out.1 _ rfl))
     obtain ⟨hx5_0, hf5_0⟩ := Kd.R_celln 0 HO_0.out (x5_1 : Int) p5 q5
     replace p5 := eq_true p5
     replace q5 := eq_true q5
     have HP7 := Kd.R_putg HO_0.out (x5_1 : Int) x1_1
     go_wp2_with (first | ((with_reducible refine gate_store (t := 2) (p := 15) rfl ?_); refine storeS (t := 2) (p := 15) (w1 := (wr.setCell ⟨go5, (x5_1 : Int).toNat, none⟩ (.int .i64 x1_1))) ?_; intro w8 hw; have hg : wr.grownBy w8 (some go5) := (by rw [hw]; exact HP7.2); have hp_ : Kd.R (Kd.int .i64) 2 w8 w0.heap.size (fun k_ => (P0_ k_ ∨ w.heap.size ≤ k_)) (.slice (some ⟨go5, 0, none⟩) x0_1.length co6) y524 := (by rw [hw, Ny524.out]; exact HP7.1); clear HP7; have n0_ := Aside0.mk (hp_); have n1_ := Aside0.mk ((by rw [hw]; exact below_set (HB.out) GB5.out : Below w0.heap.size w0 w8)); have n2_ := Aside0.mk (Kept.of_grown (S := (fun k_ => P0_ k_)) hg (kW) (fun k_ e_ => (HO_0.out.1 k_ e_))); clear HO_0 HB HK; have HO_0 := n0_; have HB := n1_; have HK := n2_; clear n0_ n1_ n2_ hg hw hp_))
     go_roundg k1
     case measure => have := HK1.out; omega
     case rel => exact ⟨(y524), (wrap64 (x1_1 + 1)), (wrap64 (x5_1 + 1)), (eW), (eW), H', ⟨by have := HK1.out; omega⟩, ⟨(rP HO_0.out)⟩, ⟨kW⟩, ⟨bW⟩⟩
    ·rw [if_neg c4] at H
     exact absurd H (by simp)
   ·rw [if_neg c3] at H
    have c3b0 : decide (x5_1 < (x0_1.length : Int)) = false := decide_eq_false c3
    clear c3
    simp only [Option.some.injEq, Prod.mk.injEq] at H
    obtain ⟨rfl, rfl⟩ := H
    obtain ⟨Ao9, co9, eo9⟩ := Kd.R_slice HO_0.out
    subst eo9
    go_wp2
    go_ret
    exact ⟨eW, (rP HO_0.out), bW, kW⟩
/-! ### laws_markAlphabet: function 33 -/
def laws_markAlphabet.f (k : Nat) (a0_0 : Int) (l0_1 : List Int) (a1 : Int) : Option (Int × List Int) := (laws_markInt64S.f k l0_1 a1).bind fun bt526 => (some (bt526.1, bt526.2))
set_option maxHeartbeats 8000000 in
set_option maxRecDepth 100000 in
theorem laws_markAlphabet.calls (k : Nat) (a0_0 : Int) (P0_1_ : Nat → Prop) (u9000_ : Value) (l0_1 : List Int) (a1 : Int) (r1 : Int) (r2 : List Int) (w0 w : World) (hB : Below w0.heap.size w0 w) (ho0_1 : Kd.R (Kd.int .i64) 2 w w0.heap.size P0_1_ u9000_ l0_1) (h : laws_markAlphabet.f k a0_0 l0_1 a1 = some (r1, r2)) :
  Calls Tryd.prog 33 #[.agg #[.int .i64 a0_0, u9000_], .int .i64 a1] w fun e w' => e = .returned (.int .i64 r1) ∧ Kd.R (Kd.int .i64) 2 w' w0.heap.size (fun k_ => (P0_1_ k_ ∨ w.heap.size ≤ k_)) u9000_ r2 ∧ Below w0.heap.size w0 w' ∧ Kept w w' (fun k_ => P0_1_ k_) := by
 have hu29 := Tryd.underlying29
 have HO0_1 := Aside0.mk (show Kd.R (Kd.int .i64) 2 w w0.heap.size (fun k_ => (P0_1_ k_ ∨ w.heap.size ≤ k_)) u9000_ l0_1 from Kd.R_mono ho0_1 (fun k_ hk => (.inl hk)))
 have HK := Aside0.mk (Kept.refl w (fun k_ => P0_1_ k_))
 have HW0 := Aside0.mk hB.size
 have HB := Aside0.mk hB
 clear hB
 have H : ((laws_markInt64S.f k l0_1 a1).bind fun bt526 => (some (bt526.1, bt526.2))) = some (r1, r2) := h
 clear h
 replace H := Option.bind_eq_some_iff.mp H
 obtain ⟨⟨t526, t527⟩, A30, H⟩ := H
 replace H : (some (t526, t527)) = some (r1, r2) := H
 have A3 := Aside0.mk A30
 clear A30
 simp only [Option.some.injEq, Prod.mk.injEq] at H
 obtain ⟨rfl, rfl⟩ := H
 obtain ⟨Ao4, co4, eo4⟩ := Kd.R_slice HO0_1.out
 subst eo4
 go_enter Tryd.func33, Tryd.ntmps33
 go_wp2_with (first | ((with_reducible refine gate_dst (N := 2) rfl ?_); refine boxS (N := 2) (cs := #[.int .i64 a0_0, .slice Ao4 l0_1.length co4]) (t := 29) ?_; intro gb525 hg w5 hbox hb; have n0_ := Aside0.mk (Kd.R_below (rP HO0_1.out) hb); have n1_ := Aside0.mk (Kept.below (S := (fun k_ => P0_1_ k_)) (kW) hb); have n2_ := Aside0.mk (below_step (bW) hb); have n3_ := Aside0.mk (hbox); have n4_ := Aside0.mk ((by rw [hg]; exact (by first | exact HK.out.1 | exact (show Kept w _ (fun k_ => P0_1_ k_) from kW).1) : w.heap.size ≤ gb525)); have n5_ := geW (w := w0) hg; clear HO0_1 HK HB; have HO0_1 := n0_; have HK := n1_; have HB := n2_; have BK525 := n3_; have GW525 := n4_; have GE525 := n5_; clear n0_ n1_ n2_ n3_ n4_ n5_ hb hbox hg; obtain ⟨hcz6_0, hcz6_1⟩ := cells2 BK525.out; obtain ⟨hfz6_0, hfz6_1⟩ := frz2 BK525.out) | ((with_reducible refine gate_callee (f := 35) rfl ?_); refine goesS (some 8) Tryd.func35 #[.slice Ao4 l0_1.length co4, .int .i64 a1] ?_; (with_reducible refine (laws_markInt64S.calls k (fun k_ => some k_ = (.slice Ao4 l0_1.length co4 : Value).ownBlock) (.slice Ao4 l0_1.length co4) l0_1 a1 t526 t527 w0 _ ?side1 ?side2 A3.out).mono ?_); (case side1 => repeat (first | (with_reducible first | exact HB.out | apply below_alloc | apply pw_below_drewN | apply below_drew1 | refine below_set ?_ GE525.out) | exact HB.out)); (case side2 => exact Kd.R_tight rfl HO0_1.out); rintro e w7 ⟨rfl, hy0, hb, hkp⟩; refine ⟨_, rfl, ?_⟩; have n0_ := Aside0.mk (Kd.R_reok rfl hy0 (fun k_ e_ => HO0_1.out.1 k_ e_)); have n1_ := Aside0.mk (blk_kept (bP BK525.out) hkp (fun hs_ => (fun e_ => (Kd.R_ne HO0_1.out BK525.out (by decide)) e_) hs_)); have n2_ := Aside0.mk (Kept.then_ (S := (fun k_ => P0_1_ k_)) (kW) hkp (fun k_ hs_ => (fun e_ => (HO0_1.out.1 k_ e_.symm)) hs_)); have n3_ := Aside0.mk (hb); clear HO0_1 BK525 HK HB; have HO0_1 := n0_; have BK525 := n1_; have HK := n2_; have HB := n3_; clear n0_ n1_ n2_ n3_; (try clear hb); (try clear hkp); (try clear hy0)))
 go_ret
 exact ⟨eW, (rP HO0_1.out), bW, kW⟩
/-! ### laws_markInt64SS: function 71 -/
def laws_markInt64SS.l0 : Nat → List (List Int) → Int → Int → Option (Int × List (List Int))
 | 0, _, _, _ => none
 | k + 1, x0, x1, x2 => if x2 < (x0.length : Int) then (if 0 ≤ x2 then ((laws_markInt64S.f k (rdOf ([] : List Int) x0 x2) x1).bind fun bt => laws_markInt64SS.l0 k (x0.set (x2 : Int).toNat bt.2) bt.1 (wrap64 (x2 + 1))) else none) else some (x1, x0)
def laws_markInt64SS.f (k : Nat) (l0 : List (List Int)) (a1 : Int) : Option (Int × List (List Int)) := laws_markInt64SS.l0 k l0 a1 0
set_option maxHeartbeats 8000000 in
set_option maxRecDepth 100000 in
theorem laws_markInt64SS.calls (k : Nat) (P0_ : Nat → Prop) (u9000_ : Value) (l0 : List (List Int)) (a1 : Int) (r1 : Int) (r2 : List (List Int)) (w0 w : World) (hB : Below w0.heap.size w0 w) (ho0 : Kd.S (Kd.slice 2 (Kd.int .i64)) 22 w w0.heap.size P0_ u9000_ l0) (h : laws_markInt64SS.f k l0 a1 = some (r1, r2)) :
    Calls Tryd.prog 71 #[u9000_, .int .i64 a1] w fun e w' => e = .returned (.int .i64 r1) ∧ Kd.S (Kd.slice 2 (Kd.int .i64)) 22 w' w0.heap.size (fun k_ => P0_ k_) u9000_ r2 ∧ Below w0.heap.size w0 w' ∧ Kept w w' (fun k_ => P0_ k_) := by
  obtain ⟨A0, c0, hu⟩ := Kd.S_slice ho0
  subst hu
  have HO := Aside0.mk ho0
  have HB := Aside0.mk hB
  have HK := Aside0.mk (Kept.refl w (fun k_ => P0_ k_))
  clear ho0 hB
  have H' := Aside0.mk (show laws_markInt64SS.l0 k l0 a1 0 = some (r1, r2) from h)
  clear h
  go_enter Tryd.func71, Tryd.ntmps71
  go_wp2
  go_loopg [1, 5] k (fun kq v1 v5 w' => ∃ (x0 : List (List Int)) (x1 : Int) (x2 : Int), v1 = .int .i64 x1 ∧ v5 = .int .i64 x2 ∧ Aside0 (laws_markInt64SS.l0 kq x0 x1 x2 = some (r1, r2)) ∧ Aside0 (kq ≤ k) ∧ Aside0 (x0.length = l0.length) ∧ Aside0 (Kd.S (Kd.slice 2 (Kd.int .i64)) 22 w' w0.heap.size P0_ (.slice A0 l0.length c0) x0) ∧ Aside0 (Below w0.heap.size w0 w') ∧ Aside0 (Kept w w' (fun k_ => P0_ k_)))
  case atStart => exact ⟨l0, a1, 0, (eW), (eW), H', ⟨Nat.le_refl _⟩, ⟨rfl⟩, HO, HB, HK⟩
  case round =>
    clear H' HO HB HK
    obtain ⟨x0, x1, x2, rfl, rfl, HA, HK1, HL, HO, HB, HK⟩ := hrel
    cases gk with
    | zero => exact absurd HA.out (by simp [laws_markInt64SS.l0])
    | succ k1 =>
      have H := HA.out
      clear HA
      simp only [laws_markInt64SS.l0] at H
      rw [HL.out] at H
      by_cases c4 : x2 < (l0.length : Int)
      · rw [if_pos c4] at H
        have c4b0 : decide (x2 < (l0.length : Int)) = true := decide_eq_true c4
        by_cases c5 : 0 ≤ x2
        · rw [if_pos c5] at H
          have c5b0 : decide (0 ≤ x2) = true := decide_eq_true c5
          obtain ⟨⟨t1, t2⟩, A60, H⟩ := Option.bind_eq_some_iff.mp H
          have A6 := Aside0.mk A60
          have H' := Aside0.mk (show laws_markInt64SS.l0 k1 (x0.set x2.toNat t2) t1 (wrap64 (x2 + 1)) = some (r1, r2) from H)
          clear A60 H
          obtain ⟨g, hg⟩ : ∃ g, A0 = some ⟨g, 0, none⟩ := by
            obtain ⟨ad, _, hA, _⟩ := ReadsRow.get_ (Kd.S_reads' HO.out).2.2 ([] : List Int) x2 c5 (by have := HL.out; omega)
            subst hA
            obtain ⟨g, e⟩ := Kd.R_head (Kd.S_R HO.out)
            exact ⟨g, by rw [e]⟩
          subst hg
          obtain ⟨oki, c, _, ⟨v, hc, hR⟩, hx, hlend, hH⟩ := Kd.S_lend HO.out ([] : List Int) x2 c5 (by omega)
          subst hc
          have hx0 := hx 0 v rfl
          have HR := Aside0.mk hR
          have HH := Aside0.mk hH
          have HE := Aside0.mk hlend
          have p1_ := eq_true c5
          have q1_ := eq_true c4
          clear hR hH hlend hx c4 c5 HO
          simp only [show (Kd.slice 2 (Kd.int .i64)).sz = 1 from rfl, Nat.mul_one, Nat.add_zero] at hx0
          go_wp2_with (first | ((with_reducible refine gate_callee (f := 35) rfl ?_); refine goesS (some 17) Tryd.func35 #[v, .int .i64 x1] ?_; (with_reducible refine (laws_markInt64S.calls _ oki v _ x1 t1 t2 w0 _ HB.out HR.out A6.out).mono ?_); rintro e w' ⟨rfl, hy, hb, hkp⟩; refine ⟨_, rfl, ?_⟩; have HO2 := Aside0.mk (Kd.H_back (Kd.H_kept HH.out hkp (fun _ _ h_ => h_)) (x' := t2) (okp := oki) ⟨v, rfl, Kd.R_reok rfl hy (fun k_ e_ => HR.out.1 k_ e_)⟩ (fun _ h_ => h_)); have HK2 := Aside0.mk (Kept.then_ HK.out hkp (fun k_ h_ => .inl (HE.out k_ h_).1)); have HB2 := Aside0.mk hb; clear hy hb hkp HH HR HK HB))
          go_roundg k1
          case measure => have := HK1.out; omega
          case rel => exact ⟨_, _, _, (eW), (eW), H', ⟨by have := HK1.out; omega⟩, ⟨by rw [List.length_set]; exact HL.out⟩, HO2, HB2, HK2⟩
        · rw [if_neg c5] at H
          exact absurd H (by simp)
      · rw [if_neg c4] at H
        have c4b0 : decide (x2 < (l0.length : Int)) = false := decide_eq_false c4
        simp only [Option.some.injEq, Prod.mk.injEq] at H
        obtain ⟨rfl, rfl⟩ := H
        go_wp2
        go_ret
        exact ⟨eW, HO.out, HB.out, HK.out⟩
/-! ### laws_markAutomaton: function 34 -/
def laws_markAutomaton.f (k : Nat) (a0_0 : Int) (a0_1 : Int) (a0_2 : Int) (l0_3 : List (List Int)) (a1 : Int) : Option (Int × List (List Int)) := laws_markInt64SS.f k l0_3 a1
set_option maxHeartbeats 8000000 in
set_option maxRecDepth 100000 in
theorem laws_markAutomaton.calls (k : Nat) (a0_0 : Int) (a0_1 : Int) (a0_2 : Int) (P0_3_ : Nat → Prop) (u9003_ : Value) (l0_3 : List (List Int)) (a1 : Int) (r1 : Int) (r2 : List (List Int)) (w0 w : World) (hB : Below w0.heap.size w0 w) (ho0_3 : Kd.S (Kd.slice 2 (Kd.int .i64)) 22 w w0.heap.size P0_3_ u9003_ l0_3) (h : laws_markAutomaton.f k a0_0 a0_1 a0_2 l0_3 a1 = some (r1, r2)) :
    Calls Tryd.prog 34 #[.agg #[.int .i64 a0_0, .int .i64 a0_1, .int .i64 a0_2, u9003_], .int .i64 a1] w fun e w' => e = .returned (.int .i64 r1) ∧ Kd.S (Kd.slice 2 (Kd.int .i64)) 22 w' w0.heap.size (fun k_ => P0_3_ k_) u9003_ r2 ∧ Below w0.heap.size w0 w' ∧ Kept w w' (fun k_ => P0_3_ k_) := by
  obtain ⟨A0, c0, hu⟩ := Kd.S_slice ho0_3
  subst hu
  have hu_ := Tryd.underlying48
  have HO := Aside0.mk ho0_3
  have HB := Aside0.mk hB
  have A3 := Aside0.mk (show laws_markInt64SS.f k l0_3 a1 = some (r1, r2) from h)
  clear ho0_3 hB h
  go_enter Tryd.func34, Tryd.ntmps34
  go_wp2_with (first | ((with_reducible refine gate_dst (N := 2) rfl ?_); refine boxS (N := 2) (cs := #[.int .i64 a0_0, .int .i64 a0_1, .int .i64 a0_2, .slice A0 l0_3.length c0]) (t := 48) ?_; intro gb hg w2 hbox hb; obtain ⟨hcz0_, hcz1_, hcz2_, hcz3_⟩ := cells4 hbox; have HO2 := Aside0.mk (Kd.S_below HO.out hb); have HB2 := Aside0.mk (below_step HB.out hb); have HK2 := Aside0.mk (Kept.of_below hb (fun k_ => P0_3_ k_)); clear hb hbox HO HB hg) | ((with_reducible refine gate_callee (f := 71) rfl ?_); refine goesS (some 8) Tryd.func71 #[.slice A0 l0_3.length c0, .int .i64 a1] ?_; (with_reducible refine (laws_markInt64SS.calls k P0_3_ _ l0_3 a1 r1 r2 w0 _ HB2.out HO2.out A3.out).mono ?_); rintro e w' ⟨rfl, hy, hb, hkp⟩; refine ⟨_, rfl, ?_⟩; have HO3 := Aside0.mk hy; have HB3 := Aside0.mk hb; have HK3 := Aside0.mk (Kept.then_ HK2.out hkp (fun k_ h_ => .inl h_)); clear hy hb hkp HO2 HB2 HK2))
  go_ret
  exact ⟨eW, HO3.out, HB3.out, HK3.out⟩
/-! ### laws_heldInt64S: function 36 -/
def laws_heldInt64S.l0 : Nat → List Int → Int → Int → Option (Int)
 | 0, _, _, _ => none
 | k + 1, x0, x1, x5 => if x5 < (x0.length : Int) then (if 0 ≤ x5 then (if (rd x0 x5) = x1 then (laws_heldInt64S.l0 k x0 (wrap64 (x1 + 1)) (wrap64 (x5 + 1))) else (some (-1))) else (none)) else (some x1)
def laws_heldInt64S.f (k : Nat) (l0 : List Int) (a1 : Int) : Option (Int) := laws_heldInt64S.l0 k l0 a1 0
set_option maxHeartbeats 8000000 in
set_option maxRecDepth 100000 in
theorem laws_heldInt64S.calls (k : Nat) (A0 : Option Addr) (c0 : Nat) (l0 : List Int) (a1 : Int) (r : Int) (w : World) (hr0 : Kd.C (Kd.int .i64) w A0 l0.length l0) (hc0 : l0.length ≤ c0) (h : laws_heldInt64S.f k l0 a1 = some r) :
  Calls Tryd.prog 36 #[.slice A0 l0.length c0, .int .i64 a1] w fun e w' => e = .returned (.int .i64 r) ∧ Drawn0 w w' := by
 have HR0 := Aside0.mk hr0
 have HC0 := Aside0.mk hc0
 clear hr0 hc0
 have H : (laws_heldInt64S.l0 k l0 a1 0) = some r := h
 clear h
 have H' := Aside0.mk H
 clear H
 go_enter Tryd.func36, Tryd.ntmps36
 go_wp2
 go_loopg [1, 5] k (fun kq v1 v5 w' => ∃ (x1_1 : Int) (x5_1 : Int), v1 = .int .i64 x1_1 ∧ v5 = .int .i64 x5_1 ∧ Aside0 (laws_heldInt64S.l0 kq l0 x1_1 x5_1 = some r) ∧ Aside0 (kq ≤ k) ∧ Drawn0 w w')
 case atStart => exact ⟨(a1), (0), (eW), (eW), H', ⟨Nat.le_refl _⟩, by repeat (first | exact Drawn0.refl _ | apply Drawn0.step)⟩
 case round =>
  clear H'
  try clear p2
  obtain ⟨x1_1, x5_1, rfl, rfl, HA, HK1, ⟨m1, rfl⟩⟩ := hrel
  cases gk with
  | zero => exact absurd HA.out (by simp [laws_heldInt64S.l0])
  | succ k1 =>
   have H := HA.out
   clear HA
   simp only [laws_heldInt64S.l0] at H
   by_cases c3 : x5_1 < (l0.length : Int)
   ·rw [if_pos c3] at H
    have c3b0 : decide (x5_1 < (l0.length : Int)) = true := decide_eq_true c3
    clear c3
    by_cases c4 : 0 ≤ x5_1
    ·rw [if_pos c4] at H
     have c4b0 : decide (0 ≤ x5_1) = true := decide_eq_true c4
     clear c4
     by_cases c5 : (rd l0 x5_1) = x1_1
     ·rw [if_pos c5] at H
      have c5b0 : ((rd l0 x5_1) == x1_1) = true := beq_iff_eq.mpr c5
      have c5b1 : ((rd l0 x5_1) != x1_1) = false := bne_eq_false_iff_eq.mpr c5
      clear c5
      have H' := Aside0.mk H
      clear H
      have p528 : 0 ≤ (x5_1 : Int) := ofD
      have q528 : x5_1 < (l0.length : Int) := ofD
      obtain ⟨ad528, e528, hx528_0⟩ := Kd.at_int HR0.out x5_1 p528 q528
      cases e528
      replace p528 := eq_true p528
      replace q528 := eq_true q528
      go_wp2
      go_roundg k1
      case measure => have := HK1.out; omega
      case rel => exact ⟨(wrap64 (x1_1 + 1)), (wrap64 (x5_1 + 1)), (eW), (eW), H', ⟨by have := HK1.out; omega⟩, by repeat (first | exact Drawn0.refl _ | apply Drawn0.step)⟩
     ·rw [if_neg c5] at H
      have c5b0 : ((rd l0 x5_1) == x1_1) = false := beq_eq_false_iff_ne.mpr c5
      have c5b1 : ((rd l0 x5_1) != x1_1) = true := bne_iff_ne.mpr c5
      obtain rfl := Option.some.inj H
      have p528 : 0 ≤ (x5_1 : Int) := ofD
      have q528 : x5_1 < (l0.length : Int) := ofD
      obtain ⟨ad528, e528, hx528_0⟩ := Kd.at_int HR0.out x5_1 p528 q528
      cases e528
      replace p528 := eq_true p528
      replace q528 := eq_true q528
      go_wp2
      go_ret
      exact ⟨eW, by repeat (first | exact Drawn0.refl _ | apply Drawn0.step)⟩
    ·rw [if_neg c4] at H
     exact absurd H (by simp)
   ·rw [if_neg c3] at H
    have c3b0 : decide (x5_1 < (l0.length : Int)) = false := decide_eq_false c3
    clear c3
    obtain rfl := Option.some.inj H
    go_wp2
    go_ret
    exact ⟨eW, by repeat (first | exact Drawn0.refl _ | apply Drawn0.step)⟩
end Go.Proofs.YthbaocejgjpfoaaDoor.P
end M0
