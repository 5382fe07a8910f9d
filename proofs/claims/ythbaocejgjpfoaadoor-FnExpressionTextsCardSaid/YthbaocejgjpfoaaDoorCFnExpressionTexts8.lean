import Derived.ArgAppend
import Derived.Below
import Derived.BigQuiet
import Derived.Deep.AppendLies
import Derived.Deep.CutBlock
import Derived.Deep.DeepCutAuto
import Derived.Deep.Draws
import Derived.Deep.LoopGhost
import Derived.Deep.OwnRows
import Derived.Deep.QuietTactic
import Derived.Deep.RegionHeld3
import Derived.KernelRfl
import Derived.Laws.BitsLemmas
import Derived.Laws.BytesArg
import Derived.Laws.IdiomCopy
import Derived.Laws.MakeOwn
import Derived.Laws.OwnMore
import Derived.Laws.Rows
import Derived.Laws.Slices
import Derived.Laws.StructEq
import Derived.Lib.AppendStr
import Derived.Lib.ConvBytes
import Derived.Lib.SliceRun
import Derived.Maps.AppendAt
import Derived.OrdersHeld
import Derived.OwnWalk
import Derived.RowKit
import Derived.RowKit3
import Derived.Shelf.Abstract
import Derived.Shelf.Spec.TrailingZeros
import Derived.Tactics
import Derived.Test.YthbaocejgjpfoaaDoorProg
import Derived.WalkKit
import Derived.WideLaws
import Derived.Test.YthbaocejgjpfoaaDoorCFnExpressionTexts3
import Derived.Test.YthbaocejgjpfoaaDoorCFnExpressionTexts4
import Derived.Test.YthbaocejgjpfoaaDoorCFnExpressionTexts5
import Derived.Test.YthbaocejgjpfoaaDoorCFnExpressionTexts7
section M0
namespace Go.Proofs.YthbaocejgjpfoaaDoor.P
open Go.RowKit Go.Proofs.YthbaocejgjpfoaaDoor.Sh Go.Proofs.YthbaocejgjpfoaaDoorW.PrintWords Go.Proofs.YthbaocejgjpfoaaDoorW.PrintLast Go.Proofs.YthbaocejgjpfoaaDoorW.PrintMore
attribute [local go_sem] max2_int min2_int max_two min_two max_three min_three max_four min_four   -- for this text's walks alone
set_option linter.unusedVariables false
set_option linter.unusedSimpArgs false
/-! ### impl_readExpression: function 87 -/
mutual
def impl_readExpression.j2 : Nat → List (S84) → ByteArray → Option ((List (S84)) × ByteArray × Bool)
 | 0, _, _ => none
 | k + 1, x5, x6 => impl_readExpression.l0 k x5 x6
def impl_readExpression.l0 : Nat → List (S84) → ByteArray → Option ((List (S84)) × ByteArray × Bool)
 | 0, _, _ => none
 | k + 1, x5, x6 => (strings_HasPrefix.f x6 (⟨#[42]⟩ : ByteArray)).bind fun t878 => (if t878 = true then ((some (([(⟨5, 0⟩ : S84)] : List (S84)) : List (S84))).bind fun y879 => (if y879.length + x5.length < 8796093022208 then (if 1 ≤ (x6.size : Int) then (impl_readExpression.l0 k (y879 ++ x5) (x6.extract 1 x6.size)) else (none)) else (none))) else (some (x5, x6, true)))
def impl_readExpression.j0 : Nat → List (S84) → ByteArray → Bool → Option ((List (S84)) × ByteArray × Bool)
 | 0, _, _, _ => none
 | k + 1, x8, x9, x60 => if x60 = true then (some (([] : List (S84)), (⟨#[]⟩ : ByteArray), false)) else (if 1 ≤ (x9.size : Int) then ((impl_readExpression.f k (x9.extract 1 x9.size)).bind fun bt854 => (if bt854.2.2 = true then ((strings_HasPrefix.f bt854.2.1 (⟨#[41]⟩ : ByteArray)).bind fun t859 => (impl_readExpression.j1 k x8 x9 bt854.1 bt854.2.1 (!t859))) else (impl_readExpression.j1 k x8 x9 bt854.1 bt854.2.1 true))) else (none))
def impl_readExpression.j1 : Nat → List (S84) → ByteArray → List (S84) → ByteArray → Bool → Option ((List (S84)) × ByteArray × Bool)
 | 0, _, _, _, _, _ => none
 | k + 1, x8, x9, x11, x12, x74 => if x74 = true then (some (([] : List (S84)), (⟨#[]⟩ : ByteArray), false)) else (if 0 < (x9.size : Int) then (if (bt x9 0) = 43 then ((impl_Term_137.f k (([(([(⟨3, 0⟩ : S84)] : List (S84))), x8, x11] : List (List (S84))))).bind fun t866 => (if 1 ≤ (x12.size : Int) then (impl_readExpression.j2 k t866 (x12.extract 1 x12.size)) else (none))) else (if (bt x9 0) = 46 then ((impl_Term_137.f k (([(([(⟨4, 0⟩ : S84)] : List (S84))), x8, x11] : List (List (S84))))).bind fun t875 => (if 1 ≤ (x12.size : Int) then (impl_readExpression.j2 k t875 (x12.extract 1 x12.size)) else (none))) else (some (([] : List (S84)), (⟨#[]⟩ : ByteArray), false)))) else (none))
def impl_readExpression.f : Nat → ByteArray → Option ((List (S84)) × ByteArray × Bool)
 | 0, _ => none
 | k + 1, a0 => if a0.toList = ([] : List UInt8) then (some (([] : List (S84)), (⟨#[]⟩ : ByteArray), false)) else ((some (([] : List (S84)) : List (S84))).bind fun y837 => (if 1 ≤ (a0.size : Int) then (if 0 < (a0.size : Int) then (if (bt a0 0) = 48 then (if y837.length < 8796093022208 then (impl_readExpression.j2 k (y837 ++ [(⟨0, 0⟩ : S84)]) (a0.extract 1 a0.size)) else (none)) else (if (bt a0 0) = 49 then (if y837.length < 8796093022208 then (impl_readExpression.j2 k (y837 ++ [(⟨1, 0⟩ : S84)]) (a0.extract 1 a0.size)) else (none)) else (if (bt a0 0) ≥ 97 then (if y837.length < 8796093022208 then (impl_readExpression.j2 k (y837 ++ [(⟨2, ((bt a0 0) - 97) % 256⟩ : S84)]) (a0.extract 1 a0.size)) else (none)) else (if (bt a0 0) = 40 then ((impl_readExpression.f k (a0.extract 1 a0.size)).bind fun bt849 => (if bt849.2.2 = true then (impl_readExpression.j0 k bt849.1 bt849.2.1 (bt849.2.1.toList == ([] : List UInt8))) else (impl_readExpression.j0 k bt849.1 bt849.2.1 true))) else (some (([] : List (S84)), (⟨#[]⟩ : ByteArray), false)))))) else (none)) else (none)))
end
def impl_readExpression.T24 : Bool × List (List Nat × List Nat) := (true, [([], []), ([0], [0]), ([1], [1]), ([], []), ([], []), ([2, 3, 4], [2, 3, 4]), ([5], [5]), ([], []), ([7], [7]), ([6, 6, 0, 1, 2, 3, 4, 5, 6], [6]), ([8, 9, 0, 1, 2, 3, 4, 5, 6, 7, 8, 9], [8])])
def impl_readExpression.B24 : List Nat := [0, 1, 3, 0, 0, 31, 63, 0, 128, 127, 1023]
theorem impl_readExpression.tab24 : rtab .any (opsOf Tryd.f87 24) = impl_readExpression.T24 := by kernel_rfl
theorem impl_readExpression.bits24 : waitsOk impl_readExpression.T24.2 impl_readExpression.B24 = true := by kernel_rfl
def impl_readExpression.T26 : Bool × List (List Nat × List Nat) := (true, [([], []), ([0], [0]), ([], []), ([1, 2], [1, 2]), ([], []), ([4], [4]), ([3, 3, 0, 1, 2, 3], [2, 3]), ([5, 6, 0, 1, 2, 3, 4, 5, 6], [4, 5])])
def impl_readExpression.B26 : List Nat := [0, 1, 0, 7, 0, 16, 15, 127]
theorem impl_readExpression.tab26 : rtab .any (opsOf Tryd.f87 26) = impl_readExpression.T26 := by kernel_rfl
theorem impl_readExpression.bits26 : waitsOk impl_readExpression.T26.2 impl_readExpression.B26 = true := by kernel_rfl
set_option maxHeartbeats 8000000 in
set_option maxRecDepth 100000 in
theorem impl_readExpression.calls (k : Nat) : ∀ (a0 : ByteArray) (r1 : List (S84)) (r2 : ByteArray) (r3 : Bool) (w : World) (h : impl_readExpression.f k a0 = some (r1, r2, r3)),
  Calls Tryd.prog 87 #[.string a0] w fun e w' => ∃ v0_ : Value, e = .returned (.tuple #[v0_, .string r2, .bool r3]) ∧ Kd.R k84 84 w' w.heap.size (fun _ => True) v0_ r1 ∧ Below w.heap.size w w' := by
 induction k using Nat.strongRecOn with
 | _ k ih =>
 intro a0 r1 r2 r3 w h
 cases k with
 | zero => exact absurd h (by simp [impl_readExpression.f])
 | succ k =>
 simp only [impl_readExpression.f] at h
 have hu84 := Tryd.underlying84
 have HB := Aside0.mk (Below.refl w.heap.size w)
 have H : (if a0.toList = ([] : List UInt8) then (some (([] : List (S84)), (⟨#[]⟩ : ByteArray), false)) else ((some (([] : List (S84)) : List (S84))).bind fun y837 => (if 1 ≤ (a0.size : Int) then (if 0 < (a0.size : Int) then (if (bt a0 0) = 48 then (if y837.length < 8796093022208 then (impl_readExpression.j2 k (y837 ++ [(⟨0, 0⟩ : S84)]) (a0.extract 1 a0.size)) else (none)) else (if (bt a0 0) = 49 then (if y837.length < 8796093022208 then (impl_readExpression.j2 k (y837 ++ [(⟨1, 0⟩ : S84)]) (a0.extract 1 a0.size)) else (none)) else (if (bt a0 0) ≥ 97 then (if y837.length < 8796093022208 then (impl_readExpression.j2 k (y837 ++ [(⟨2, ((bt a0 0) - 97) % 256⟩ : S84)]) (a0.extract 1 a0.size)) else (none)) else (if (bt a0 0) = 40 then ((impl_readExpression.f k (a0.extract 1 a0.size)).bind fun bt849 => (if bt849.2.2 = true then (impl_readExpression.j0 k bt849.1 bt849.2.1 (bt849.2.1.toList == ([] : List UInt8))) else (impl_readExpression.j0 k bt849.1 bt849.2.1 true))) else (some (([] : List (S84)), (⟨#[]⟩ : ByteArray), false)))))) else (none)) else (none)))) = some (r1, r2, r3) := h
 clear h
 by_cases c2 : a0.toList = ([] : List UInt8)
 ·rw [if_pos c2] at H
  have c2b0 : (a0.toList == ([] : List UInt8)) = true := beq_iff_eq.mpr c2
  have c2b1 : (a0.toList != ([] : List UInt8)) = false := bne_eq_false_iff_eq.mpr c2
  clear c2
  simp only [Option.some.injEq, Prod.mk.injEq] at H
  obtain ⟨rfl, rfl, rfl⟩ := H
  go_enter Tryd.func87, Tryd.ntmps87
  go_wp2
  go_ret3
  exact ⟨_, eW, by first | exact Kd.R_nil _ _ _ _ _ | exact Kd.N_nil _ _ _ _ _ | exact Kd.V_nil _ _ _ _ _ | exact Kd.Q_nil _ _ _ _ _ | exact Kd.S_nil _ _ _ _ _, bW⟩
 ·rw [if_neg c2] at H
  have c2b0 : (a0.toList == ([] : List UInt8)) = false := beq_eq_false_iff_ne.mpr c2
  have c2b1 : (a0.toList != ([] : List UInt8)) = true := bne_iff_ne.mpr c2
  obtain ⟨y837, hy837⟩ : ∃ y_ : List (S84), y_ = (([] : List (S84))) := ⟨_, rfl⟩
  replace H : (if 1 ≤ (a0.size : Int) then (if 0 < (a0.size : Int) then (if (bt a0 0) = 48 then (if y837.length < 8796093022208 then (impl_readExpression.j2 k (y837 ++ [(⟨0, 0⟩ : S84)]) (a0.extract 1 a0.size)) else (none)) else (if (bt a0 0) = 49 then (if y837.length < 8796093022208 then (impl_readExpression.j2 k (y837 ++ [(⟨1, 0⟩ : S84)]) (a0.extract 1 a0.size)) else (none)) else (if (bt a0 0) ≥ 97 then (if y837.length < 8796093022208 then (impl_readExpression.j2 k (y837 ++ [(⟨2, ((bt a0 0) - 97) % 256⟩ : S84)]) (a0.extract 1 a0.size)) else (none)) else (if (bt a0 0) = 40 then ((impl_readExpression.f k (a0.extract 1 a0.size)).bind fun bt849 => (if bt849.2.2 = true then (impl_readExpression.j0 k bt849.1 bt849.2.1 (bt849.2.1.toList == ([] : List UInt8))) else (impl_readExpression.j0 k bt849.1 bt849.2.1 true))) else (some (([] : List (S84)), (⟨#[]⟩ : ByteArray), false)))))) else (none)) else (none)) = some (r1, r2, r3) := by first | (rw [hy837]; with_reducible exact H) | (have H2_ := (Option.bind_some _ _).symm.trans H; rw [hy837]; with_reducible exact H2_) | (have H2_ := (Option.bind_some _ _).symm.trans H; with_reducible exact H2_) | with_reducible exact H | (rw [hy837]; exact H) | exact H
  have Ny837 := Aside0.mk hy837
  clear hy837
  by_cases c3 : 1 ≤ (a0.size : Int)
  ·rw [if_pos c3] at H
   have c3b0 := eq_true c3
   have c3b1 : decide (1 ≤ (a0.size : Int)) = true := decide_eq_true c3
   clear c3
   by_cases c4 : 0 < (a0.size : Int)
   ·rw [if_pos c4] at H
    have c4b0 : decide (0 < (a0.size : Int)) = true := decide_eq_true c4
    have c4b1 : decide (0 < a0.size) = true := decide_eq_true (by omega)
    clear c4
    have HC6 := Aside0.mk H
    clear H
    go_enter Tryd.func87, Tryd.ntmps87
    try go_wp2
    have n0_ := Aside0.mk (below_drew1 HB.out)
    clear HB; have HB := n0_; clear n0_
    refine start_ (n := 5) (S := fun w' => True) (ds := []) #[false, false, false, false, false] (by kernel_rfl) rfl rfl trivial (fun hHeld => ?_)
    generalize w.drew = w7 at HB hHeld ⊢
    refine pureS (i := 1) (N := some 18) (by kernel_rfl) ?_
    refine pureS (i := 2) (N := some 19) (by kernel_rfl) ?_
    refine one_ (i := 0) (N := some 17) #[true, true, true, false, false] rfl rfl (by kernel_rfl) (by decide) (fun K hK => ?_)
    refine Kd.R_lit_step k84 _ 84 ?hg (N := 17) ?hd (xs := ([] : List (S84))) (inner := []) (ok := fun _ => True) (okp := fun _ => True) ?hr ?hp (fun _ hk => hk) trivial (Below.refl _ _) (Nat.le_refl _) (by simp) ?_; (case hd => rfl); (case hg => rfl); (case hr => first | (go_simp; done) | (go_simp; rfl)); (case hp => exact (Reps.none _ _))
    intro v838 w8 ho9 hb hg_ hnew_
    clear hg_ hnew_
    (first | rw [← Ny837.out] at ho9 | (simp only [Int.reduceToNat] at ho9; rw [← Ny837.out] at ho9))
    have n0_ := Aside0.mk (Kd.R_lower ho9 (below_size (bW)))
    have n1_ := Aside0.mk (below_step (bW) hb)
    clear HB; have HO839 := n0_; have HB := n1_; clear n0_ n1_ hb ho9
    refine hK.out _ _ trivial (fun hHeld => ?_)
    clear hK K
    refine norm_ (a' := ?_) ?_ ?_
    rotate_left
    ·show Act.put _ (some 17) _ = _
     simp only [Act.put, List.setIfInBounds_toArray, List.set_cons_zero, List.set_cons_succ, i64_w, i32_w]
     rfl
    refine pureS (i := 3) (N := some 5) (by kernel_rfl) ?_
    refine pureS (i := 4) (N := some 6) (by kernel_rfl) ?_
    refine done_ (by kernel_rfl) ?_
    have p5 : 0 ≤ (0 : Int) := (by omega)
    have q5 : 0 < a0.size := (by have : (0 : Int) < (a0.size : Int) := ofD; omega)
    have hx5 : ∀ h : 0 < a0.size, ((a0[0]'h).toNat : Int) = bt a0 0 := bt_at a0 0
    clear p5
    have qi5 : (0 < (a0.size : Int)) = True := eq_true (ofD)
    replace q5 := eq_true q5
    go_upto_block 0 with (fail)
    go_cut [5, 6] (fun v5 v6 wc => ∃ (kq : Nat) (x5_5 : List (S84)) (x6_5 : ByteArray), v6 = .string x6_5 ∧ Aside0 (impl_readExpression.j2 kq x5_5 x6_5 = some (r1, r2, r3)) ∧ Aside0 (kq ≤ k) ∧ Aside0 (Kd.R k84 84 wc w.heap.size (fun _ => True) v5 x5_5) ∧ Aside0 (Below w.heap.size w wc))
    case first =>
     have H := HC6.out
     clear HC6
     by_cases c10 : (bt a0 0) = 48
     ·rw [if_pos c10] at H
      have c10b0 : ((bt a0 0) == 48) = true := beq_iff_eq.mpr c10
      have c10b1 : ((bt a0 0) != 48) = false := bne_eq_false_iff_eq.mpr c10
      clear c10
      (first | rw [c10b0] | (simp only [i64_w, i32_w]; rw [c10b0]) | skip)
      by_cases c11 : y837.length < 8796093022208
      ·rw [if_pos c11] at H
       have LMc11 := Aside0.mk c11
       clear c11
       obtain ⟨y840, hy840⟩ : ∃ y_ : List (S84), y_ = (y837 ++ [(⟨0, 0⟩ : S84)]) := ⟨_, rfl⟩
       replace H : (impl_readExpression.j2 k y840 (a0.extract 1 a0.size)) = some (r1, r2, r3) := by first | (rw [hy840]; with_reducible exact H) | (have H2_ := (Option.bind_some _ _).symm.trans H; rw [hy840]; with_reducible exact H2_) | (have H2_ := (Option.bind_some _ _).symm.trans H; with_reducible exact H2_) | with_reducible exact H | (rw [hy840]; exact H) | exact H
       have Ny840 := Aside0.mk hy840
       clear hy840
       have H' := Aside0.mk H
       clear H
       go_wp2_with (first | ((with_reducible refine gate_builtin (b := .append) (xs := #[.tmp 25, .tmp 27]) rfl ?_); at_builtin; refine Kd.R_append k84 (w0 := w) w.heap.size rfl (.tmp 25) (.tmp 27) 39 84 (.agg #[(.int .i64 0), (.int .i64 0)]) 16 rfl Tryd.underlying39 info84 rfl (by decide) (by omega) v838 y837 (⟨0, 0⟩ : S84) [.int .i64 0, .int .i64 0] (fun _ => True) (fun _ => False) rfl rfl ?aP (fun _ hk => hk.elim) ?aF ?aO ?aB ?aS ?aL ?_; (case aP => exact k84_mkM _ _ _ (⟨0, 0⟩ : S84)); (case aB => exact (bW)); (case aF => exact (fun _ _ => trivial)); (case aO => exact (rP HO839.out)); (case aS => exact (below_size (bW))); (case aL => have := LMc11.out; omega); intro v841 w12 ho hb hg hat; rw [← Ny840.out] at ho; have n0_ := Aside0.mk (hb); have n1_ := Aside0.mk (ho); clear HB HO839; have HB := n0_; have HO842 := n1_; clear n0_ n1_ ho hb hg hat))
       go_meet
       case rel => exact ⟨_, (y840), (a0.extract 1 a0.size), (eW), H', ⟨by first | omega | exact Nat.le_refl _⟩, ⟨(rP HO842.out)⟩, ⟨bW⟩⟩
      ·rw [if_neg c11] at H
       exact absurd H (by simp)
     ·rw [if_neg c10] at H
      have c10b0 : ((bt a0 0) == 48) = false := beq_eq_false_iff_ne.mpr c10
      have c10b1 : ((bt a0 0) != 48) = true := bne_iff_ne.mpr c10
      (first | rw [c10b0] | (simp only [i64_w, i32_w]; rw [c10b0]) | skip)
      by_cases c13 : (bt a0 0) = 49
      ·rw [if_pos c13] at H
       have c13b0 : ((bt a0 0) == 49) = true := beq_iff_eq.mpr c13
       have c13b1 : ((bt a0 0) != 49) = false := bne_eq_false_iff_eq.mpr c13
       clear c13
       by_cases c14 : y837.length < 8796093022208
       ·rw [if_pos c14] at H
        have LMc14 := Aside0.mk c14
        clear c14
        obtain ⟨y843, hy843⟩ : ∃ y_ : List (S84), y_ = (y837 ++ [(⟨1, 0⟩ : S84)]) := ⟨_, rfl⟩
        replace H : (impl_readExpression.j2 k y843 (a0.extract 1 a0.size)) = some (r1, r2, r3) := by first | (rw [hy843]; with_reducible exact H) | (have H2_ := (Option.bind_some _ _).symm.trans H; rw [hy843]; with_reducible exact H2_) | (have H2_ := (Option.bind_some _ _).symm.trans H; with_reducible exact H2_) | with_reducible exact H | (rw [hy843]; exact H) | exact H
        have Ny843 := Aside0.mk hy843
        clear hy843
        have H' := Aside0.mk H
        clear H
        go_wp2_with (first | ((with_reducible refine gate_builtin (b := .append) (xs := #[.tmp 32, .tmp 34]) rfl ?_); at_builtin; refine Kd.R_append k84 (w0 := w) w.heap.size rfl (.tmp 32) (.tmp 34) 39 84 (.agg #[(.int .i64 0), (.int .i64 0)]) 16 rfl Tryd.underlying39 info84 rfl (by decide) (by omega) v838 y837 (⟨1, 0⟩ : S84) [.int .i64 1, .int .i64 0] (fun _ => True) (fun _ => False) rfl rfl ?aP (fun _ hk => hk.elim) ?aF ?aO ?aB ?aS ?aL ?_; (case aP => exact k84_mkM _ _ _ (⟨1, 0⟩ : S84)); (case aB => exact (bW)); (case aF => exact (fun _ _ => trivial)); (case aO => exact (rP HO839.out)); (case aS => exact (below_size (bW))); (case aL => have := LMc14.out; omega); intro v844 w15 ho hb hg hat; rw [← Ny843.out] at ho; have n0_ := Aside0.mk (hb); have n1_ := Aside0.mk (ho); clear HB HO839; have HB := n0_; have HO845 := n1_; clear n0_ n1_ ho hb hg hat))
        go_meet
        case rel => exact ⟨_, (y843), (a0.extract 1 a0.size), (eW), H', ⟨by first | omega | exact Nat.le_refl _⟩, ⟨(rP HO845.out)⟩, ⟨bW⟩⟩
       ·rw [if_neg c14] at H
        exact absurd H (by simp)
      ·rw [if_neg c13] at H
       have c13b0 : ((bt a0 0) == 49) = false := beq_eq_false_iff_ne.mpr c13
       have c13b1 : ((bt a0 0) != 49) = true := bne_iff_ne.mpr c13
       by_cases c16 : (bt a0 0) ≥ 97
       ·rw [if_pos c16] at H
        have c16b0 : decide (97 ≤ (bt a0 0)) = true := decide_eq_true c16
        clear c16
        by_cases c17 : y837.length < 8796093022208
        ·rw [if_pos c17] at H
         have LMc17 := Aside0.mk c17
         clear c17
         obtain ⟨y846, hy846⟩ : ∃ y_ : List (S84), y_ = (y837 ++ [(⟨2, ((bt a0 0) - 97) % 256⟩ : S84)]) := ⟨_, rfl⟩
         replace H : (impl_readExpression.j2 k y846 (a0.extract 1 a0.size)) = some (r1, r2, r3) := by first | (rw [hy846]; with_reducible exact H) | (have H2_ := (Option.bind_some _ _).symm.trans H; rw [hy846]; with_reducible exact H2_) | (have H2_ := (Option.bind_some _ _).symm.trans H; with_reducible exact H2_) | with_reducible exact H | (rw [hy846]; exact H) | exact H
         have Ny846 := Aside0.mk hy846
         clear hy846
         have H' := Aside0.mk H
         clear H
         go_wp2_with (first | ((with_reducible refine gate_builtin (b := .append) (xs := #[.tmp 39, .tmp 44]) rfl ?_); at_builtin; refine Kd.R_append k84 (w0 := w) w.heap.size rfl (.tmp 39) (.tmp 44) 39 84 (.agg #[(.int .i64 0), (.int .i64 0)]) 16 rfl Tryd.underlying39 info84 rfl (by decide) (by omega) v838 y837 (⟨2, ((bt a0 0) - 97) % 256⟩ : S84) [.int .i64 2, .int .i64 (((bt a0 0) - 97) % 256)] (fun _ => True) (fun _ => False) rfl rfl ?aP (fun _ hk => hk.elim) ?aF ?aO ?aB ?aS ?aL ?_; (case aP => exact k84_mkM _ _ _ (⟨2, ((bt a0 0) - 97) % 256⟩ : S84)); (case aB => exact (bW)); (case aF => exact (fun _ _ => trivial)); (case aO => exact (rP HO839.out)); (case aS => exact (below_size (bW))); (case aL => have := LMc17.out; omega); intro v847 w18 ho hb hg hat; rw [← Ny846.out] at ho; have n0_ := Aside0.mk (hb); have n1_ := Aside0.mk (ho); clear HB HO839; have HB := n0_; have HO848 := n1_; clear n0_ n1_ ho hb hg hat))
         go_meet
         case rel => exact ⟨_, (y846), (a0.extract 1 a0.size), (eW), H', ⟨by first | omega | exact Nat.le_refl _⟩, ⟨(rP HO848.out)⟩, ⟨bW⟩⟩
        ·rw [if_neg c17] at H
         exact absurd H (by simp)
       ·rw [if_neg c16] at H
        have c16b0 : decide (97 ≤ (bt a0 0)) = false := decide_eq_false c16
        clear c16
        by_cases c19 : (bt a0 0) = 40
        ·rw [if_pos c19] at H
         have c19b0 : ((bt a0 0) == 40) = true := beq_iff_eq.mpr c19
         have c19b1 : ((bt a0 0) != 40) = false := bne_eq_false_iff_eq.mpr c19
         clear c19
         replace H := Option.bind_eq_some_iff.mp H
         obtain ⟨⟨t849, t850, t851⟩, A200, H⟩ := H
         replace H : (if t851 = true then (impl_readExpression.j0 k t849 t850 (t850.toList == ([] : List UInt8))) else (impl_readExpression.j0 k t849 t850 true)) = some (r1, r2, r3) := H
         have A20 := Aside0.mk A200
         clear A200
         have HC21 := Aside0.mk H
         clear H
         go_upto_region 14 with (first | ((with_reducible refine gate_callee (f := 87) rfl ?_); refine goesS (some 51) Tryd.func87 #[.string (a0.extract 1 a0.size)] ?_; (with_reducible refine (ih k (by omega) (a0.extract 1 a0.size) t849 t850 t851 _ A20.out).mono ?_); rintro e w22 ⟨v852, rfl, ho0, hb⟩; refine ⟨_, rfl, ?_⟩; have n0_ := Aside0.mk (Kd.R_elder' (rP HO839.out) (Kd.R_base ho0) hb); have n1_ := Aside0.mk (Kd.R_lower (Kd.R_new' ho0 (Kd.R_lt (rP HO839.out))) (below_size (bW))); have n2_ := Aside0.mk (below_step (bW) hb); clear HO839 HB; have HO839 := n0_; have HO853 := n1_; have HB := n2_; clear n0_ n1_ n2_; (try clear hb); (try clear hb2); (try clear hk); (try clear hi); (try clear ho0)))
         (try simp only [Act.put, List.setIfInBounds_toArray, List.set_cons_zero, List.set_cons_succ])
         go_cut [60] (fun v60 wc => ∃ (kq : Nat) (x60_20 : Bool), v60 = .bool x60_20 ∧ Aside0 (impl_readExpression.j0 kq t849 t850 x60_20 = some (r1, r2, r3)) ∧ Aside0 (kq ≤ k) ∧ Aside0 (Kd.R k84 84 wc w.heap.size (fun _ => True) v852 t849) ∧ Aside0 (Below w.heap.size w wc))
         case first =>
          have H := HC21.out
          clear HC21
          by_cases c23 : t851 = true
          ·subst c23
           have H1 : (impl_readExpression.j0 k t849 t850 (t850.toList == ([] : List UInt8))) = some (r1, r2, r3) := by rw [if_pos rfl] at H; exact H
           clear H
           have H := H1
           clear H1
           have H' := Aside0.mk H
           clear H
           go_wp2
           go_meet
           case rel => exact ⟨_, ((t850.toList == ([] : List UInt8))), (eW), H', ⟨by first | omega | exact Nat.le_refl _⟩, ⟨by (with_reducible repeat (first | apply Kd.R_alloc | apply Kd.R_drewN | apply Kd.R_drew)); exact Kd.R_mono HO853.out (fun _ hk => trivial)⟩, ⟨bW⟩⟩
          ·replace c23 := Bool.eq_false_iff.mpr c23
           subst c23
           have H1 : (impl_readExpression.j0 k t849 t850 true) = some (r1, r2, r3) := by rw [if_neg (show ¬ (false = true) by decide)] at H; exact H
           clear H
           have H := H1
           clear H1
           have H' := Aside0.mk H
           clear H
           go_wp2
           go_meet
           case rel => exact ⟨_, (true), (eW), H', ⟨by first | omega | exact Nat.le_refl _⟩, ⟨by (with_reducible repeat (first | apply Kd.R_alloc | apply Kd.R_drewN | apply Kd.R_drew)); exact Kd.R_mono HO853.out (fun _ hk => trivial)⟩, ⟨bW⟩⟩
         case rest =>
          clear HC21
          try clear c1
          try clear c2
          try clear c2b0
          try clear c2b1
          try clear p2
          try clear c3
          try clear c3b0
          try clear c3b1
          try clear c4
          try clear c4b0
          try clear c4b1
          try clear p5
          try clear q5
          try clear hx5
          try clear qi5
          try clear c8
          try clear c10
          try clear c10b0
          try clear c10b1
          try clear c11
          try clear c13
          try clear c13b0
          try clear c13b1
          try clear c14
          try clear c16
          try clear c16b0
          try clear c17
          try clear c19
          try clear c19b0
          try clear c19b1
          try clear c23
          try clear p5
          try clear q5
          obtain ⟨kq, x60_20, rfl, HA, HJ20, HO_8, HB⟩ := hcut
          cases kq with
          | zero => exact absurd HA.out (by simp [impl_readExpression.j0])
          | succ kj20 =>
           have H := HA.out
           clear HA
           simp only [impl_readExpression.j0] at H
           by_cases c24 : x60_20 = true
           ·subst c24
            have H1 : (some (([] : List (S84)), (⟨#[]⟩ : ByteArray), false)) = some (r1, r2, r3) := by rw [if_pos rfl] at H; exact H
            clear H
            have H := H1
            clear H1
            simp only [Option.some.injEq, Prod.mk.injEq] at H
            obtain ⟨rfl, rfl, rfl⟩ := H
            go_wp2
            go_ret3
            exact ⟨_, eW, by first | exact Kd.R_nil _ _ _ _ _ | exact Kd.N_nil _ _ _ _ _ | exact Kd.V_nil _ _ _ _ _ | exact Kd.Q_nil _ _ _ _ _ | exact Kd.S_nil _ _ _ _ _, bW⟩
           ·replace c24 := Bool.eq_false_iff.mpr c24
            subst c24
            have H1 : (if 1 ≤ (t850.size : Int) then ((impl_readExpression.f kj20 (t850.extract 1 t850.size)).bind fun bt854 => (if bt854.2.2 = true then ((strings_HasPrefix.f bt854.2.1 (⟨#[41]⟩ : ByteArray)).bind fun t859 => (impl_readExpression.j1 kj20 t849 t850 bt854.1 bt854.2.1 (!t859))) else (impl_readExpression.j1 kj20 t849 t850 bt854.1 bt854.2.1 true))) else (none)) = some (r1, r2, r3) := by rw [if_neg (show ¬ (false = true) by decide)] at H; exact H
            clear H
            have H := H1
            clear H1
            by_cases c25 : 1 ≤ (t850.size : Int)
            ·rw [if_pos c25] at H
             have c25b0 := eq_true c25
             have c25b1 : decide (1 ≤ (t850.size : Int)) = true := decide_eq_true c25
             clear c25
             replace H := Option.bind_eq_some_iff.mp H
             obtain ⟨⟨t854, t855, t856⟩, A260, H⟩ := H
             replace H : (if t856 = true then ((strings_HasPrefix.f t855 (⟨#[41]⟩ : ByteArray)).bind fun t859 => (impl_readExpression.j1 kj20 t849 t850 t854 t855 (!t859))) else (impl_readExpression.j1 kj20 t849 t850 t854 t855 true)) = some (r1, r2, r3) := H
             have A26 := Aside0.mk A260
             clear A260
             have HC27 := Aside0.mk H
             clear H
             go_upto_region 17 with (first | ((with_reducible refine gate_callee (f := 87) rfl ?_); refine goesS (some 64) Tryd.func87 #[.string (t850.extract 1 t850.size)] ?_; (with_reducible refine (ih kj20 (by have := HJ20.out; omega) (t850.extract 1 t850.size) t854 t855 t856 _ A26.out).mono ?_); rintro e w28 ⟨v857, rfl, ho0, hb⟩; refine ⟨_, rfl, ?_⟩; have n0_ := Aside0.mk (Kd.R_elder' (rP HO_8.out) (Kd.R_base ho0) hb); have n1_ := Aside0.mk (Kd.R_lower (Kd.R_new' ho0 (Kd.R_lt (rP HO_8.out))) (below_size (bW))); have n2_ := Aside0.mk (below_step (bW) hb); clear HO_8 HB; have HO_8 := n0_; have HO858 := n1_; have HB := n2_; clear n0_ n1_ n2_; (try clear hb); (try clear hb2); (try clear hk); (try clear hi); (try clear ho0)))
             (try simp only [Act.put, List.setIfInBounds_toArray, List.set_cons_zero, List.set_cons_succ])
             go_cut [74] (fun v74 wc => ∃ (kq : Nat) (x74_26 : Bool), v74 = .bool x74_26 ∧ Aside0 (impl_readExpression.j1 kq t849 t850 t854 t855 x74_26 = some (r1, r2, r3)) ∧ Aside0 (kq ≤ kj20) ∧ Aside0 (Kd.R k84 84 wc w.heap.size (fun k_ => some k_ ≠ (v857 : Value).ownBlock) v852 t849) ∧ Aside0 (Kd.R k84 84 wc w.heap.size (fun k_ => some k_ ≠ (v852 : Value).ownBlock) v857 t854) ∧ Aside0 (Below w.heap.size w wc))
             case first =>
              have H := HC27.out
              clear HC27
              by_cases c29 : t856 = true
              ·subst c29
               have H1 : ((strings_HasPrefix.f t855 (⟨#[41]⟩ : ByteArray)).bind fun t859 => (impl_readExpression.j1 kj20 t849 t850 t854 t855 (!t859))) = some (r1, r2, r3) := by rw [if_pos rfl] at H; exact H
               clear H
               have H := H1
               clear H1
               replace H := Option.bind_eq_some_iff.mp H
               obtain ⟨t859, A300, H⟩ := H
               replace H : (impl_readExpression.j1 kj20 t849 t850 t854 t855 (!t859)) = some (r1, r2, r3) := H
               have A30 := Aside0.mk A300
               clear A300
               have H' := Aside0.mk H
               clear H
               go_wp2_with (first | (go_at_call 136; (with_reducible refine (strings_HasPrefix.calls t855 (⟨#[41]⟩ : ByteArray) t859 _ A30.out).mono ?_); rintro e w' ⟨rfl, ⟨nd, rfl⟩⟩))
               go_meet
               case rel => exact ⟨_, (!t859), (eW), H', ⟨by have := HJ20.out; first | omega | exact Nat.le_refl _⟩, ⟨by (with_reducible repeat (first | apply Kd.R_alloc | apply Kd.R_drewN | apply Kd.R_drew)); exact Kd.R_mono HO_8.out (fun _ hk => hk.2)⟩, ⟨by (with_reducible repeat (first | apply Kd.R_alloc | apply Kd.R_drewN | apply Kd.R_drew)); exact Kd.R_mono HO858.out (fun _ hk => hk.2)⟩, ⟨bW⟩⟩
              ·replace c29 := Bool.eq_false_iff.mpr c29
               subst c29
               have H1 : (impl_readExpression.j1 kj20 t849 t850 t854 t855 true) = some (r1, r2, r3) := by rw [if_neg (show ¬ (false = true) by decide)] at H; exact H
               clear H
               have H := H1
               clear H1
               have H' := Aside0.mk H
               clear H
               go_wp2
               go_meet
               case rel => exact ⟨_, (true), (eW), H', ⟨by have := HJ20.out; first | omega | exact Nat.le_refl _⟩, ⟨by (with_reducible repeat (first | apply Kd.R_alloc | apply Kd.R_drewN | apply Kd.R_drew)); exact Kd.R_mono HO_8.out (fun _ hk => hk.2)⟩, ⟨by (with_reducible repeat (first | apply Kd.R_alloc | apply Kd.R_drewN | apply Kd.R_drew)); exact Kd.R_mono HO858.out (fun _ hk => hk.2)⟩, ⟨bW⟩⟩
             case rest =>
              clear HC27
              try clear c1
              try clear c2
              try clear c2b0
              try clear c2b1
              try clear p2
              try clear c3
              try clear c3b0
              try clear c3b1
              try clear c4
              try clear c4b0
              try clear c4b1
              try clear p5
              try clear q5
              try clear hx5
              try clear qi5
              try clear c8
              try clear c10
              try clear c10b0
              try clear c10b1
              try clear c11
              try clear c13
              try clear c13b0
              try clear c13b1
              try clear c14
              try clear c16
              try clear c16b0
              try clear c17
              try clear c19
              try clear c19b0
              try clear c19b1
              try clear c23
              try clear c24
              try clear c25
              try clear c25b0
              try clear c25b1
              try clear c29
              try clear p2
              try clear p5
              try clear q5
              obtain ⟨kq, x74_26, rfl, HA, HJ26, HO_8, HO_11, HB⟩ := hcut
              cases kq with
              | zero => exact absurd HA.out (by simp [impl_readExpression.j1])
              | succ kj26 =>
               have H := HA.out
               clear HA
               simp only [impl_readExpression.j1] at H
               by_cases c31 : x74_26 = true
               ·subst c31
                have H1 : (some (([] : List (S84)), (⟨#[]⟩ : ByteArray), false)) = some (r1, r2, r3) := by rw [if_pos rfl] at H; exact H
                clear H
                have H := H1
                clear H1
                simp only [Option.some.injEq, Prod.mk.injEq] at H
                obtain ⟨rfl, rfl, rfl⟩ := H
                go_wp2
                go_ret3
                exact ⟨_, eW, by first | exact Kd.R_nil _ _ _ _ _ | exact Kd.N_nil _ _ _ _ _ | exact Kd.V_nil _ _ _ _ _ | exact Kd.Q_nil _ _ _ _ _ | exact Kd.S_nil _ _ _ _ _, bW⟩
               ·replace c31 := Bool.eq_false_iff.mpr c31
                subst c31
                have H1 : (if 0 < (t850.size : Int) then (if (bt t850 0) = 43 then ((impl_Term_137.f kj26 (([(([(⟨3, 0⟩ : S84)] : List (S84))), t849, t854] : List (List (S84))))).bind fun t866 => (if 1 ≤ (t855.size : Int) then (impl_readExpression.j2 kj26 t866 (t855.extract 1 t855.size)) else (none))) else (if (bt t850 0) = 46 then ((impl_Term_137.f kj26 (([(([(⟨4, 0⟩ : S84)] : List (S84))), t849, t854] : List (List (S84))))).bind fun t875 => (if 1 ≤ (t855.size : Int) then (impl_readExpression.j2 kj26 t875 (t855.extract 1 t855.size)) else (none))) else (some (([] : List (S84)), (⟨#[]⟩ : ByteArray), false)))) else (none)) = some (r1, r2, r3) := by rw [if_neg (show ¬ (false = true) by decide)] at H; exact H
                clear H
                have H := H1
                clear H1
                by_cases c32 : 0 < (t850.size : Int)
                ·rw [if_pos c32] at H
                 have c32b0 : decide (0 < (t850.size : Int)) = true := decide_eq_true c32
                 have c32b1 : decide (0 < t850.size) = true := decide_eq_true (by omega)
                 clear c32
                 by_cases c34 : (bt t850 0) = 43
                 ·rw [if_pos c34] at H
                  have c34b0 : ((bt t850 0) == 43) = true := beq_iff_eq.mpr c34
                  have c34b1 : ((bt t850 0) != 43) = false := bne_eq_false_iff_eq.mpr c34
                  clear c34
                  obtain ⟨y860, hy860⟩ : ∃ y_ : List (S84), y_ = (([(⟨3, 0⟩ : S84)] : List (S84))) := ⟨_, rfl⟩
                  replace H : ((impl_Term_137.f kj26 (([y860, t849, t854] : List (List (S84))))).bind fun t866 => (if 1 ≤ (t855.size : Int) then (impl_readExpression.j2 kj26 t866 (t855.extract 1 t855.size)) else (none))) = some (r1, r2, r3) := by first | (rw [hy860]; with_reducible exact H) | (have H2_ := (Option.bind_some _ _).symm.trans H; rw [hy860]; with_reducible exact H2_) | (have H2_ := (Option.bind_some _ _).symm.trans H; with_reducible exact H2_) | with_reducible exact H | (rw [hy860]; exact H) | exact H
                  have Ny860 := Aside0.mk hy860
                  clear hy860
                  obtain ⟨y863, hy863⟩ : ∃ y_ : List (List (S84)), y_ = (([y860, t849, t854] : List (List (S84)))) := ⟨_, rfl⟩
                  replace H : ((impl_Term_137.f kj26 y863).bind fun t866 => (if 1 ≤ (t855.size : Int) then (impl_readExpression.j2 kj26 t866 (t855.extract 1 t855.size)) else (none))) = some (r1, r2, r3) := by first | (rw [hy863]; with_reducible exact H) | (have H2_ := (Option.bind_some _ _).symm.trans H; rw [hy863]; with_reducible exact H2_) | (have H2_ := (Option.bind_some _ _).symm.trans H; with_reducible exact H2_) | with_reducible exact H | (rw [hy863]; exact H) | exact H
                  have Ny863 := Aside0.mk hy863
                  clear hy863
                  replace H := Option.bind_eq_some_iff.mp H
                  obtain ⟨t866, A350, H⟩ := H
                  replace H : (if 1 ≤ (t855.size : Int) then (impl_readExpression.j2 kj26 t866 (t855.extract 1 t855.size)) else (none)) = some (r1, r2, r3) := H
                  have A35 := Aside0.mk A350
                  clear A350
                  by_cases c36 : 1 ≤ (t855.size : Int)
                  ·rw [if_pos c36] at H
                   have c36b0 := eq_true c36
                   have c36b1 : decide (1 ≤ (t855.size : Int)) = true := decide_eq_true c36
                   clear c36
                   have H' := Aside0.mk H
                   clear H
                   have p33 : 0 ≤ (0 : Int) := (by omega)
                   have q33 : 0 < t850.size := (by have : (0 : Int) < (t850.size : Int) := ofD; omega)
                   have hx33 : ∀ h : 0 < t850.size, ((t850[0]'h).toNat : Int) = bt t850 0 := bt_at t850 0
                   clear p33
                   have qi33 : (0 < (t850.size : Int)) = True := eq_true (ofD)
                   replace q33 := eq_true q33
                   try go_wp2
                   have n0_ := Aside0.mk (Kd.R_drew HO_8.out)
                   have n1_ := Aside0.mk (Kd.R_drew HO_11.out)
                   have n2_ := Aside0.mk (below_drew1 HB.out)
                   clear HO_8 HO_11 HB; have HO_8 := n0_; have HO_11 := n1_; have HB := n2_; clear n0_ n1_ n2_
                   refine start_ (n := 11) (S := fun w' => True) (ds := []) #[false, false, false, false, false, false, false, false, false, false, false] (by kernel_rfl) rfl rfl trivial (fun hHeld => ?_); refine with_tabW impl_readExpression.tab24 impl_readExpression.bits24 (fun HT_ HW_ => ?_)
                   generalize wc.drew = w37 at HO_8 HO_11 HB hHeld ⊢
                   refine pureS (i := 0) (N := some 81) (any_of HT_.out (by kernel_rfl)) ?_
                   refine pureS (i := 1) (N := some 82) (any_of HT_.out (by kernel_rfl)) ?_
                   refine pureS (i := 3) (N := some 84) (any_of HT_.out (by kernel_rfl)) ?_
                   refine pureS (i := 4) (N := some 85) (any_of HT_.out (by kernel_rfl)) ?_
                   refine pureS (i := 7) (N := some 88) (any_of HT_.out (by kernel_rfl)) ?_
                   refine pureS (i := 8) (N := some 89) (any_of HT_.out (by kernel_rfl)) ?_
                   refine one_ (i := 2) (N := some 83) #[true, true, true, true, true, false, false, true, true, false, false] rfl rfl (one_of HT_.out (by kernel_rfl)) (by decide) (fun K hK => ?_)
                   refine Kd.R_lit_step k84 _ 84 ?hg (N := 83) ?hd (xs := ([(⟨3, 0⟩ : S84)] : List (S84))) (inner := [.int .i64 3, .int .i64 0]) (ok := fun _ => True) (okp := fun _ => True) ?hr ?hp (fun _ hk => hk) trivial (Below.refl _ _) (Nat.le_refl _) (by simp) ?_; (case hd => rfl); (case hg => rfl); (case hr => first | (go_simp; done) | (go_simp; rfl)); (case hp => exact (Reps.c2 (show Kd.M k84 _ _ _ (⟨3, 0⟩ : S84) [.int .i64 3, .int .i64 0] from (k84_mkM _ _ _ (⟨3, 0⟩ : S84) )) (Reps.none _ _)))
                   intro v861 w38 ho39 hb hg_ hnew_
                   clear hg_ hnew_
                   (first | rw [← Ny860.out] at ho39 | (simp only [Int.reduceToNat] at ho39; rw [← Ny860.out] at ho39))
                   have n0_ := Aside0.mk (Kd.R_elder' (rP HO_8.out) (Kd.R_base ho39) hb)
                   have n1_ := Aside0.mk (Kd.R_elder' (rP HO_11.out) (Kd.R_base ho39) hb)
                   have n2_ := Aside0.mk (Kd.R_lower (Kd.R_new' (Kd.R_new' ho39 (Kd.R_lt (rP HO_8.out))) (Kd.R_lt (rP HO_11.out))) (below_size (bW)))
                   have n3_ := Aside0.mk (below_step (bW) hb)
                   clear HO_8 HO_11 HB; have HO_8 := n0_; have HO_11 := n1_; have HO862 := n2_; have HB := n3_; clear n0_ n1_ n2_ n3_ hb ho39
                   obtain ⟨Ao40, co40, eo40⟩ := Kd.R_slice HO862.out
                   (first | subst eo40 | (injection eo40 with f1_ f2_ f3_; have f4_ := f1_.symm; have f5_ := f3_.symm; clear f1_ f2_ f3_; subst f4_; subst f5_))
                   obtain ⟨Ao41, co41, eo41⟩ := Kd.R_slice HO_8.out
                   (first | subst eo41 | (injection eo41 with f1_ f2_ f3_; have f4_ := f1_.symm; have f5_ := f3_.symm; clear f1_ f2_ f3_; subst f4_; subst f5_))
                   obtain ⟨Ao42, co42, eo42⟩ := Kd.R_slice HO_11.out
                   (first | subst eo42 | (injection eo42 with f1_ f2_ f3_; have f4_ := f1_.symm; have f5_ := f3_.symm; clear f1_ f2_ f3_; subst f4_; subst f5_))
                   refine hK.out _ _ trivial (fun hHeld => ?_)
                   clear hK K
                   refine norm_ (a' := ?_) ?_ ?_
                   rotate_left
                   ·show Act.put _ (some 83) _ = _
                    simp only [Act.put, List.setIfInBounds_toArray, List.set_cons_zero, List.set_cons_succ, i64_w, i32_w]
                    rfl
                   refine one_ (i := 5) (N := some 86) #[true, true, true, true, true, true, false, true, true, false, false] rfl rfl (one_of HT_.out (by kernel_rfl)) (by decide) (fun K hK => ?_)
                   refine Kd.N_lit_step (Kd.slice 84 k84) _ 39 ?hg (N' := 86) ?hd (xs := ([y860, t849, t854] : List (List (S84)))) (inner := [.slice Ao40 y860.length co40, .slice Ao41 t849.length co41, .slice Ao42 t854.length co42]) (ok := (fun _ => True)) (okp := (fun _ => True)) ?hr ?hp (fun _ hk => hk) ((show ∀ k_, w38.heap.size ≤ k_ → (fun _ => True) k_ from fun k_ hk => trivial) _ (Nat.le_refl _)) (Below.refl _ _) (Nat.le_refl _) (by simp) ?_; (case hd => rfl); (case hg => rfl); (case hr => first | (go_simp; done) | (go_simp; rfl)); (case hp => exact (Reps.one (show Kd.FK (Kd.slice 84 k84) _ _ y860 [.slice Ao40 y860.length co40] from (Kd.FK_slice_mk (Kd.R_reads' (Kd.R_mono (ok' := (fun _ => True)) (HO862.out) (fun k_ hk => trivial))).2.1 (Kd.R_F (Kd.R_mono (ok' := (fun _ => True)) (HO862.out) (fun k_ hk => trivial))))) (Reps.one (show Kd.FK (Kd.slice 84 k84) _ _ t849 [.slice Ao41 t849.length co41] from (Kd.FK_slice_mk (Kd.R_reads' (Kd.R_mono (ok' := (fun _ => True)) (HO_8.out) (fun k_ hk => trivial))).2.1 (Kd.R_F (Kd.R_mono (ok' := (fun _ => True)) (HO_8.out) (fun k_ hk => trivial))))) (Reps.one (show Kd.FK (Kd.slice 84 k84) _ _ t854 [.slice Ao42 t854.length co42] from (Kd.FK_slice_mk (Kd.R_reads' (Kd.R_mono (ok' := (fun _ => True)) (HO_11.out) (fun k_ hk => trivial))).2.1 (Kd.R_F (Kd.R_mono (ok' := (fun _ => True)) (HO_11.out) (fun k_ hk => trivial))))) (Reps.none _ _)))))
                   intro v864 w43 ho44 hb hg_ hnew_
                   clear hg_ hnew_
                   (first | rw [← Ny863.out] at ho44 | (simp only [Int.reduceToNat] at ho44; rw [← Ny863.out] at ho44))
                   have n0_ := Aside0.mk (Kd.N_lower ho44 (below_size (bW)))
                   have n1_ := Aside0.mk (below_step (bW) hb)
                   clear HB HO862 HO_11 HO_8; have HO865 := n0_; have HB := n1_; clear n0_ n1_ hb ho44
                   obtain ⟨Ao45, co45, eo45⟩ := Kd.N_slice HO865.out
                   (first | subst eo45 | (injection eo45 with f1_ f2_ f3_; have f4_ := f1_.symm; have f5_ := f3_.symm; clear f1_ f2_ f3_; subst f4_; subst f5_))
                   refine hK.out _ _ trivial (fun hHeld => ?_)
                   clear hK K
                   refine norm_ (a' := ?_) ?_ ?_
                   rotate_left
                   ·show Act.put _ (some 86) _ = _
                    simp only [Act.put, List.setIfInBounds_toArray, List.set_cons_zero, List.set_cons_succ, i64_w, i32_w]
                    rfl
                   refine one_ (i := 6) (N := some 87) #[true, true, true, true, true, true, true, true, true, false, false] rfl rfl (one_of HT_.out (by kernel_rfl)) (by decide) (fun K hK => ?_)
                   refine goes_ Tryd.func137 (by kernel_rfl) rfl #[.slice Ao45 y863.length co45] (by rfl) rfl rfl (by (try simp only [List.map_toArray, List.map_cons, List.map_nil]); first | done | rfl | (simp only [List.length_drop, List.length_take]; rfl)) ?_
                   with_reducible refine (impl_Term_137.calls kj26 _ _ y863 t866 _ ?side1 ?side2 A35.out).mono ?_
                   (case side1 => exact cP ((Kd.N_reads' HO865.out).2.2))
                   (case side2 => exact (Kd.N_reads' HO865.out).2.1)
                   rintro e w46 ⟨v867, rfl, ho0, hb⟩
                   refine ⟨_, rfl, ?_⟩
                   have n0_ := Aside0.mk (Kd.N_elder' (by (with_reducible repeat (first | apply Kd.N_alloc | apply Kd.N_drewN | apply Kd.N_drew)); exact HO865.out) (Kd.R_base ho0) hb)
                   have n1_ := Aside0.mk (Kd.R_lower ho0 (below_size (bW)))
                   have n2_ := Aside0.mk (below_step (bW) hb)
                   clear HO865 HB; have HO865 := n0_; have HO868 := n1_; have HB := n2_; clear n0_ n1_ n2_
                   (try clear hb)
                   (try clear hb2)
                   (try clear hk)
                   (try clear hi)
                   (try clear ho0)
                   refine hK.out _ _ trivial (fun hHeld => ?_)
                   clear hK K
                   refine norm_ (a' := ?_) ?_ ?_
                   rotate_left
                   ·show Act.put _ (some 87) _ = _
                    simp only [Act.put, List.setIfInBounds_toArray, List.set_cons_zero, List.set_cons_succ, i64_w, i32_w]
                    rfl
                   refine pureS (i := 9) (N := some 5) (any_of HT_.out (by kernel_rfl)) ?_
                   refine pureS (i := 10) (N := some 6) (any_of HT_.out (by kernel_rfl)) ?_
                   refine done_ (done_of HT_.out (by kernel_rfl)) ?_
                   try go_wp2
                   go_meet
                   case rel => exact ⟨_, (t866), (t855.extract 1 t855.size), (eW), H', ⟨by have := HJ20.out; have := HJ26.out; first | omega | exact Nat.le_refl _⟩, ⟨(rP HO868.out)⟩, ⟨bW⟩⟩
                  ·rw [if_neg c36] at H
                   exact absurd H (by simp)
                 ·rw [if_neg c34] at H
                  have c34b0 : ((bt t850 0) == 43) = false := beq_eq_false_iff_ne.mpr c34
                  have c34b1 : ((bt t850 0) != 43) = true := bne_iff_ne.mpr c34
                  by_cases c48 : (bt t850 0) = 46
                  ·rw [if_pos c48] at H
                   have c48b0 : ((bt t850 0) == 46) = true := beq_iff_eq.mpr c48
                   have c48b1 : ((bt t850 0) != 46) = false := bne_eq_false_iff_eq.mpr c48
                   clear c48
                   obtain ⟨y869, hy869⟩ : ∃ y_ : List (S84), y_ = (([(⟨4, 0⟩ : S84)] : List (S84))) := ⟨_, rfl⟩
                   replace H : ((impl_Term_137.f kj26 (([y869, t849, t854] : List (List (S84))))).bind fun t875 => (if 1 ≤ (t855.size : Int) then (impl_readExpression.j2 kj26 t875 (t855.extract 1 t855.size)) else (none))) = some (r1, r2, r3) := by first | (rw [hy869]; with_reducible exact H) | (have H2_ := (Option.bind_some _ _).symm.trans H; rw [hy869]; with_reducible exact H2_) | (have H2_ := (Option.bind_some _ _).symm.trans H; with_reducible exact H2_) | with_reducible exact H | (rw [hy869]; exact H) | exact H
                   have Ny869 := Aside0.mk hy869
                   clear hy869
                   obtain ⟨y872, hy872⟩ : ∃ y_ : List (List (S84)), y_ = (([y869, t849, t854] : List (List (S84)))) := ⟨_, rfl⟩
                   replace H : ((impl_Term_137.f kj26 y872).bind fun t875 => (if 1 ≤ (t855.size : Int) then (impl_readExpression.j2 kj26 t875 (t855.extract 1 t855.size)) else (none))) = some (r1, r2, r3) := by first | (rw [hy872]; with_reducible exact H) | (have H2_ := (Option.bind_some _ _).symm.trans H; rw [hy872]; with_reducible exact H2_) | (have H2_ := (Option.bind_some _ _).symm.trans H; with_reducible exact H2_) | with_reducible exact H | (rw [hy872]; exact H) | exact H
                   have Ny872 := Aside0.mk hy872
                   clear hy872
                   replace H := Option.bind_eq_some_iff.mp H
                   obtain ⟨t875, A490, H⟩ := H
                   replace H : (if 1 ≤ (t855.size : Int) then (impl_readExpression.j2 kj26 t875 (t855.extract 1 t855.size)) else (none)) = some (r1, r2, r3) := H
                   have A49 := Aside0.mk A490
                   clear A490
                   by_cases c50 : 1 ≤ (t855.size : Int)
                   ·rw [if_pos c50] at H
                    have c50b0 := eq_true c50
                    have c50b1 : decide (1 ≤ (t855.size : Int)) = true := decide_eq_true c50
                    clear c50
                    have H' := Aside0.mk H
                    clear H
                    have p33 : 0 ≤ (0 : Int) := (by omega)
                    have q33 : 0 < t850.size := (by have : (0 : Int) < (t850.size : Int) := ofD; omega)
                    have hx33 : ∀ h : 0 < t850.size, ((t850[0]'h).toNat : Int) = bt t850 0 := bt_at t850 0
                    clear p33
                    have qi33 : (0 < (t850.size : Int)) = True := eq_true (ofD)
                    replace q33 := eq_true q33
                    have p47 : 0 ≤ (0 : Int) := (by omega)
                    have q47 : 0 < t850.size := (by have : (0 : Int) < (t850.size : Int) := ofD; omega)
                    have hx47 : ∀ h : 0 < t850.size, ((t850[0]'h).toNat : Int) = bt t850 0 := bt_at t850 0
                    clear p47
                    have qi47 : (0 < (t850.size : Int)) = True := eq_true (ofD)
                    replace q47 := eq_true q47
                    try go_wp2
                    have n0_ := Aside0.mk (Kd.R_drew HO_8.out)
                    have n1_ := Aside0.mk (Kd.R_drew HO_11.out)
                    have n2_ := Aside0.mk (below_drew1 HB.out)
                    clear HO_8 HO_11 HB; have HO_8 := n0_; have HO_11 := n1_; have HB := n2_; clear n0_ n1_ n2_
                    refine start_ (n := 11) (S := fun w' => True) (ds := []) #[false, false, false, false, false, false, false, false, false, false, false] (by kernel_rfl) rfl rfl trivial (fun hHeld => ?_); refine with_tabW impl_readExpression.tab24 impl_readExpression.bits24 (fun HT_ HW_ => ?_)
                    generalize wc.drew = w51 at HO_8 HO_11 HB hHeld ⊢
                    refine pureS (i := 0) (N := some 81) (any_of HT_.out (by kernel_rfl)) ?_
                    refine pureS (i := 1) (N := some 82) (any_of HT_.out (by kernel_rfl)) ?_
                    refine pureS (i := 3) (N := some 84) (any_of HT_.out (by kernel_rfl)) ?_
                    refine pureS (i := 4) (N := some 85) (any_of HT_.out (by kernel_rfl)) ?_
                    refine pureS (i := 7) (N := some 88) (any_of HT_.out (by kernel_rfl)) ?_
                    refine pureS (i := 8) (N := some 89) (any_of HT_.out (by kernel_rfl)) ?_
                    refine one_ (i := 2) (N := some 83) #[true, true, true, true, true, false, false, true, true, false, false] rfl rfl (one_of HT_.out (by kernel_rfl)) (by decide) (fun K hK => ?_)
                    refine Kd.R_lit_step k84 _ 84 ?hg (N := 83) ?hd (xs := ([(⟨4, 0⟩ : S84)] : List (S84))) (inner := [.int .i64 4, .int .i64 0]) (ok := fun _ => True) (okp := fun _ => True) ?hr ?hp (fun _ hk => hk) trivial (Below.refl _ _) (Nat.le_refl _) (by simp) ?_; (case hd => rfl); (case hg => rfl); (case hr => first | (go_simp; done) | (go_simp; rfl)); (case hp => exact (Reps.c2 (show Kd.M k84 _ _ _ (⟨4, 0⟩ : S84) [.int .i64 4, .int .i64 0] from (k84_mkM _ _ _ (⟨4, 0⟩ : S84) )) (Reps.none _ _)))
                    intro v870 w52 ho53 hb hg_ hnew_
                    clear hg_ hnew_
                    (first | rw [← Ny869.out] at ho53 | (simp only [Int.reduceToNat] at ho53; rw [← Ny869.out] at ho53))
                    have n0_ := Aside0.mk (Kd.R_elder' (rP HO_8.out) (Kd.R_base ho53) hb)
                    have n1_ := Aside0.mk (Kd.R_elder' (rP HO_11.out) (Kd.R_base ho53) hb)
                    have n2_ := Aside0.mk (Kd.R_lower (Kd.R_new' (Kd.R_new' ho53 (Kd.R_lt (rP HO_8.out))) (Kd.R_lt (rP HO_11.out))) (below_size (bW)))
                    have n3_ := Aside0.mk (below_step (bW) hb)
                    clear HO_8 HO_11 HB; have HO_8 := n0_; have HO_11 := n1_; have HO871 := n2_; have HB := n3_; clear n0_ n1_ n2_ n3_ hb ho53
                    obtain ⟨Ao54, co54, eo54⟩ := Kd.R_slice HO871.out
                    (first | subst eo54 | (injection eo54 with f1_ f2_ f3_; have f4_ := f1_.symm; have f5_ := f3_.symm; clear f1_ f2_ f3_; subst f4_; subst f5_))
                    obtain ⟨Ao55, co55, eo55⟩ := Kd.R_slice HO_8.out
                    (first | subst eo55 | (injection eo55 with f1_ f2_ f3_; have f4_ := f1_.symm; have f5_ := f3_.symm; clear f1_ f2_ f3_; subst f4_; subst f5_))
                    obtain ⟨Ao56, co56, eo56⟩ := Kd.R_slice HO_11.out
                    (first | subst eo56 | (injection eo56 with f1_ f2_ f3_; have f4_ := f1_.symm; have f5_ := f3_.symm; clear f1_ f2_ f3_; subst f4_; subst f5_))
                    refine hK.out _ _ trivial (fun hHeld => ?_)
                    clear hK K
                    refine norm_ (a' := ?_) ?_ ?_
                    rotate_left
                    ·show Act.put _ (some 83) _ = _
                     simp only [Act.put, List.setIfInBounds_toArray, List.set_cons_zero, List.set_cons_succ, i64_w, i32_w]
                     rfl
                    refine one_ (i := 5) (N := some 86) #[true, true, true, true, true, true, false, true, true, false, false] rfl rfl (one_of HT_.out (by kernel_rfl)) (by decide) (fun K hK => ?_)
                    refine Kd.N_lit_step (Kd.slice 84 k84) _ 39 ?hg (N' := 86) ?hd (xs := ([y869, t849, t854] : List (List (S84)))) (inner := [.slice Ao54 y869.length co54, .slice Ao55 t849.length co55, .slice Ao56 t854.length co56]) (ok := (fun _ => True)) (okp := (fun _ => True)) ?hr ?hp (fun _ hk => hk) ((show ∀ k_, w52.heap.size ≤ k_ → (fun _ => True) k_ from fun k_ hk => trivial) _ (Nat.le_refl _)) (Below.refl _ _) (Nat.le_refl _) (by simp) ?_; (case hd => rfl); (case hg => rfl); (case hr => first | (go_simp; done) | (go_simp; rfl)); (case hp => exact (Reps.one (show Kd.FK (Kd.slice 84 k84) _ _ y869 [.slice Ao54 y869.length co54] from (Kd.FK_slice_mk (Kd.R_reads' (Kd.R_mono (ok' := (fun _ => True)) (HO871.out) (fun k_ hk => trivial))).2.1 (Kd.R_F (Kd.R_mono (ok' := (fun _ => True)) (HO871.out) (fun k_ hk => trivial))))) (Reps.one (show Kd.FK (Kd.slice 84 k84) _ _ t849 [.slice Ao55 t849.length co55] from (Kd.FK_slice_mk (Kd.R_reads' (Kd.R_mono (ok' := (fun _ => True)) (HO_8.out) (fun k_ hk => trivial))).2.1 (Kd.R_F (Kd.R_mono (ok' := (fun _ => True)) (HO_8.out) (fun k_ hk => trivial))))) (Reps.one (show Kd.FK (Kd.slice 84 k84) _ _ t854 [.slice Ao56 t854.length co56] from (Kd.FK_slice_mk (Kd.R_reads' (Kd.R_mono (ok' := (fun _ => True)) (HO_11.out) (fun k_ hk => trivial))).2.1 (Kd.R_F (Kd.R_mono (ok' := (fun _ => True)) (HO_11.out) (fun k_ hk => trivial))))) (Reps.none _ _)))))
                    intro v873 w57 ho58 hb hg_ hnew_
                    clear hg_ hnew_
                    (first | rw [← Ny872.out] at ho58 | (simp only [Int.reduceToNat] at ho58; rw [← Ny872.out] at ho58))
                    have n0_ := Aside0.mk (Kd.N_lower ho58 (below_size (bW)))
                    have n1_ := Aside0.mk (below_step (bW) hb)
                    clear HB HO871 HO_11 HO_8; have HO874 := n0_; have HB := n1_; clear n0_ n1_ hb ho58
                    obtain ⟨Ao59, co59, eo59⟩ := Kd.N_slice HO874.out
                    (first | subst eo59 | (injection eo59 with f1_ f2_ f3_; have f4_ := f1_.symm; have f5_ := f3_.symm; clear f1_ f2_ f3_; subst f4_; subst f5_))
                    refine hK.out _ _ trivial (fun hHeld => ?_)
                    clear hK K
                    refine norm_ (a' := ?_) ?_ ?_
                    rotate_left
                    ·show Act.put _ (some 86) _ = _
                     simp only [Act.put, List.setIfInBounds_toArray, List.set_cons_zero, List.set_cons_succ, i64_w, i32_w]
                     rfl
                    refine one_ (i := 6) (N := some 87) #[true, true, true, true, true, true, true, true, true, false, false] rfl rfl (one_of HT_.out (by kernel_rfl)) (by decide) (fun K hK => ?_)
                    refine goes_ Tryd.func137 (by kernel_rfl) rfl #[.slice Ao59 y872.length co59] (by rfl) rfl rfl (by (try simp only [List.map_toArray, List.map_cons, List.map_nil]); first | done | rfl | (simp only [List.length_drop, List.length_take]; rfl)) ?_
                    with_reducible refine (impl_Term_137.calls kj26 _ _ y872 t875 _ ?side1 ?side2 A49.out).mono ?_
                    (case side1 => exact cP ((Kd.N_reads' HO874.out).2.2))
                    (case side2 => exact (Kd.N_reads' HO874.out).2.1)
                    rintro e w60 ⟨v876, rfl, ho0, hb⟩
                    refine ⟨_, rfl, ?_⟩
                    have n0_ := Aside0.mk (Kd.N_elder' (by (with_reducible repeat (first | apply Kd.N_alloc | apply Kd.N_drewN | apply Kd.N_drew)); exact HO874.out) (Kd.R_base ho0) hb)
                    have n1_ := Aside0.mk (Kd.R_lower ho0 (below_size (bW)))
                    have n2_ := Aside0.mk (below_step (bW) hb)
                    clear HO874 HB; have HO874 := n0_; have HO877 := n1_; have HB := n2_; clear n0_ n1_ n2_
                    (try clear hb)
                    (try clear hb2)
                    (try clear hk)
                    (try clear hi)
                    (try clear ho0)
                    refine hK.out _ _ trivial (fun hHeld => ?_)
                    clear hK K
                    refine norm_ (a' := ?_) ?_ ?_
                    rotate_left
                    ·show Act.put _ (some 87) _ = _
                     simp only [Act.put, List.setIfInBounds_toArray, List.set_cons_zero, List.set_cons_succ, i64_w, i32_w]
                     rfl
                    refine pureS (i := 9) (N := some 5) (any_of HT_.out (by kernel_rfl)) ?_
                    refine pureS (i := 10) (N := some 6) (any_of HT_.out (by kernel_rfl)) ?_
                    refine done_ (done_of HT_.out (by kernel_rfl)) ?_
                    try go_wp2
                    go_meet
                    case rel => exact ⟨_, (t875), (t855.extract 1 t855.size), (eW), H', ⟨by have := HJ20.out; have := HJ26.out; first | omega | exact Nat.le_refl _⟩, ⟨(rP HO877.out)⟩, ⟨bW⟩⟩
                   ·rw [if_neg c50] at H
                    exact absurd H (by simp)
                  ·rw [if_neg c48] at H
                   have c48b0 : ((bt t850 0) == 46) = false := beq_eq_false_iff_ne.mpr c48
                   have c48b1 : ((bt t850 0) != 46) = true := bne_iff_ne.mpr c48
                   simp only [Option.some.injEq, Prod.mk.injEq] at H
                   obtain ⟨rfl, rfl, rfl⟩ := H
                   have p33 : 0 ≤ (0 : Int) := (by omega)
                   have q33 : 0 < t850.size := (by have : (0 : Int) < (t850.size : Int) := ofD; omega)
                   have hx33 : ∀ h : 0 < t850.size, ((t850[0]'h).toNat : Int) = bt t850 0 := bt_at t850 0
                   clear p33
                   have qi33 : (0 < (t850.size : Int)) = True := eq_true (ofD)
                   replace q33 := eq_true q33
                   have p47 : 0 ≤ (0 : Int) := (by omega)
                   have q47 : 0 < t850.size := (by have : (0 : Int) < (t850.size : Int) := ofD; omega)
                   have hx47 : ∀ h : 0 < t850.size, ((t850[0]'h).toNat : Int) = bt t850 0 := bt_at t850 0
                   clear p47
                   have qi47 : (0 < (t850.size : Int)) = True := eq_true (ofD)
                   replace q47 := eq_true q47
                   go_wp2
                   go_ret3
                   exact ⟨_, eW, by first | exact Kd.R_nil _ _ _ _ _ | exact Kd.N_nil _ _ _ _ _ | exact Kd.V_nil _ _ _ _ _ | exact Kd.Q_nil _ _ _ _ _ | exact Kd.S_nil _ _ _ _ _, bW⟩
                ·rw [if_neg c32] at H
                 exact absurd H (by simp)
            ·rw [if_neg c25] at H
             exact absurd H (by simp)
        ·rw [if_neg c19] at H
         have c19b0 : ((bt a0 0) == 40) = false := beq_eq_false_iff_ne.mpr c19
         have c19b1 : ((bt a0 0) != 40) = true := bne_iff_ne.mpr c19
         simp only [Option.some.injEq, Prod.mk.injEq] at H
         obtain ⟨rfl, rfl, rfl⟩ := H
         go_wp2
         go_ret3
         exact ⟨_, eW, by first | exact Kd.R_nil _ _ _ _ _ | exact Kd.N_nil _ _ _ _ _ | exact Kd.V_nil _ _ _ _ _ | exact Kd.Q_nil _ _ _ _ _ | exact Kd.S_nil _ _ _ _ _, bW⟩
    case rest =>
     clear HC6
     try clear c1
     try clear c2
     try clear c2b0
     try clear c2b1
     try clear p2
     try clear c3
     try clear c3b0
     try clear c3b1
     try clear p3
     try clear q3
     try clear hx3
     try clear qi3
     try clear c4
     try clear c4b0
     try clear c4b1
     try clear p4
     try clear q4
     try clear hx4
     try clear qi4
     try clear c5
     try clear p5
     try clear q5
     try clear hx5
     try clear qi5
     try clear c8
     try clear c10
     try clear c10b0
     try clear c10b1
     try clear c11
     try clear c13
     try clear c13b0
     try clear c13b1
     try clear c14
     try clear c16
     try clear c16b0
     try clear c17
     try clear c19
     try clear c19b0
     try clear c19b1
     try clear c23
     try clear c24
     try clear c25
     try clear c25b0
     try clear c25b1
     try clear c29
     try clear c31
     try clear c32
     try clear c32b0
     try clear c32b1
     try clear p33
     try clear q33
     try clear hx33
     try clear qi33
     try clear c34
     try clear c34b0
     try clear c34b1
     try clear c36
     try clear c36b0
     try clear c36b1
     try clear p47
     try clear q47
     try clear hx47
     try clear qi47
     try clear c48
     try clear c48b0
     try clear c48b1
     try clear c50
     try clear c50b0
     try clear c50b1
     try clear p2
     try clear p33
     try clear p47
     try clear p5
     try clear q33
     try clear q47
     try clear q5
     obtain ⟨kq, x5_5, x6_5, rfl, HA, HJ5, HO_5, HB⟩ := hcut
     cases kq with
     | zero => exact absurd HA.out (by simp [impl_readExpression.j2])
     | succ kj5 =>
      have H := HA.out
      clear HA
      simp only [impl_readExpression.j2] at H
      have H' := Aside0.mk H
      clear H
      go_wp2
      go_loopg [5, 6] kj5 (fun kq v5 v6 w' => ∃ (x5_2 : List (S84)) (x6_2 : ByteArray), v6 = .string x6_2 ∧ Aside0 (impl_readExpression.l0 kq x5_2 x6_2 = some (r1, r2, r3)) ∧ Aside0 (kq ≤ kj5) ∧ Aside0 (Kd.R k84 84 w' w.heap.size (fun _ => True) v5 x5_2) ∧ Aside0 (Below w.heap.size w w'))
      case atStart => exact ⟨(x5_5), (x6_5), (eW), H', ⟨Nat.le_refl _⟩, ⟨(rP HO_5.out)⟩, ⟨bW⟩⟩
      case round =>
       clear H'
       try clear c1
       try clear c2
       try clear c2b0
       try clear c2b1
       try clear p2
       try clear c3
       try clear c3b0
       try clear c3b1
       try clear p3
       try clear q3
       try clear hx3
       try clear qi3
       try clear c4
       try clear c4b0
       try clear c4b1
       try clear p4
       try clear q4
       try clear hx4
       try clear qi4
       try clear c5
       try clear p5
       try clear q5
       try clear hx5
       try clear qi5
       try clear c8
       try clear c10
       try clear c10b0
       try clear c10b1
       try clear c11
       try clear c13
       try clear c13b0
       try clear c13b1
       try clear c14
       try clear c16
       try clear c16b0
       try clear c17
       try clear c19
       try clear c19b0
       try clear c19b1
       try clear c23
       try clear c24
       try clear c25
       try clear c25b0
       try clear c25b1
       try clear c29
       try clear c31
       try clear c32
       try clear c32b0
       try clear c32b1
       try clear p33
       try clear q33
       try clear hx33
       try clear qi33
       try clear c34
       try clear c34b0
       try clear c34b1
       try clear c36
       try clear c36b0
       try clear c36b1
       try clear p47
       try clear q47
       try clear hx47
       try clear qi47
       try clear c48
       try clear c48b0
       try clear c48b1
       try clear c50
       try clear c50b0
       try clear c50b1
       try clear p2
       try clear p3
       try clear p33
       try clear p4
       try clear p47
       try clear p5
       try clear q3
       try clear q33
       try clear q4
       try clear q47
       try clear q5
       obtain ⟨x5_2, x6_2, rfl, HA, HK2, HO_5, HB⟩ := hrel
       cases gk with
       | zero => exact absurd HA.out (by simp [impl_readExpression.l0])
       | succ k2 =>
        have H := HA.out
        clear HA
        simp only [impl_readExpression.l0] at H
        replace H := Option.bind_eq_some_iff.mp H
        obtain ⟨t878, A610, H⟩ := H
        replace H : (if t878 = true then ((some (([(⟨5, 0⟩ : S84)] : List (S84)) : List (S84))).bind fun y879 => (if y879.length + x5_2.length < 8796093022208 then (if 1 ≤ (x6_2.size : Int) then (impl_readExpression.l0 k2 (y879 ++ x5_2) (x6_2.extract 1 x6_2.size)) else (none)) else (none))) else (some (x5_2, x6_2, true))) = some (r1, r2, r3) := H
        have A61 := Aside0.mk A610
        clear A610
        by_cases c62 : t878 = true
        ·subst c62
         have H1 : ((some (([(⟨5, 0⟩ : S84)] : List (S84)) : List (S84))).bind fun y879 => (if y879.length + x5_2.length < 8796093022208 then (if 1 ≤ (x6_2.size : Int) then (impl_readExpression.l0 k2 (y879 ++ x5_2) (x6_2.extract 1 x6_2.size)) else (none)) else (none))) = some (r1, r2, r3) := by rw [if_pos rfl] at H; exact H
         clear H
         have H := H1
         clear H1
         obtain ⟨y879, hy879⟩ : ∃ y_ : List (S84), y_ = (([(⟨5, 0⟩ : S84)] : List (S84))) := ⟨_, rfl⟩
         replace H : (if y879.length + x5_2.length < 8796093022208 then (if 1 ≤ (x6_2.size : Int) then (impl_readExpression.l0 k2 (y879 ++ x5_2) (x6_2.extract 1 x6_2.size)) else (none)) else (none)) = some (r1, r2, r3) := by first | (rw [hy879]; with_reducible exact H) | (have H2_ := (Option.bind_some _ _).symm.trans H; rw [hy879]; with_reducible exact H2_) | (have H2_ := (Option.bind_some _ _).symm.trans H; with_reducible exact H2_) | with_reducible exact H | (rw [hy879]; exact H) | exact H
         have Ny879 := Aside0.mk hy879
         clear hy879
         by_cases c63 : y879.length + x5_2.length < 8796093022208
         ·rw [if_pos c63] at H
          have LMc63 := Aside0.mk c63
          clear c63
          obtain ⟨y882, hy882⟩ : ∃ y_ : List (S84), y_ = (y879 ++ x5_2) := ⟨_, rfl⟩
          replace H : (if 1 ≤ (x6_2.size : Int) then (impl_readExpression.l0 k2 y882 (x6_2.extract 1 x6_2.size)) else (none)) = some (r1, r2, r3) := by first | (rw [hy882]; with_reducible exact H) | (have H2_ := (Option.bind_some _ _).symm.trans H; rw [hy882]; with_reducible exact H2_) | (have H2_ := (Option.bind_some _ _).symm.trans H; with_reducible exact H2_) | with_reducible exact H | (rw [hy882]; exact H) | exact H
          have Ny882 := Aside0.mk hy882
          clear hy882
          by_cases c64 : 1 ≤ (x6_2.size : Int)
          ·rw [if_pos c64] at H
           have c64b0 := eq_true c64
           have c64b1 : decide (1 ≤ (x6_2.size : Int)) = true := decide_eq_true c64
           clear c64
           have H' := Aside0.mk H
           clear H
           try go_wp2_with (first | ((with_reducible refine gate_callee (f := 136) rfl ?_); refine goesS (some 91) Tryd.func136 #[.string x6_2, .string ⟨#[42]⟩] ?_; (with_reducible refine (strings_HasPrefix.calls x6_2 (⟨#[42]⟩ : ByteArray) true _ A61.out).mono ?_); rintro e w' ⟨rfl, ⟨nd, rfl⟩⟩; refine ⟨_, rfl, ?_⟩))
           (try (rw [drewN_self wr]; generalize hq_ : World.drewN wr _ = wr; have n0_ : Aside0 (Kd.R k84 84 wr w.heap.size (fun _ => True) u5 x5_2) := ⟨by rw [← hq_]; exact (rP HO_5.out)⟩; have n1_ : Aside0 (Below w.heap.size w wr) := ⟨by rw [← hq_]; exact (bW)⟩; clear HO_5 HB hq_; have HO_5 := n0_; have HB := n1_; clear n0_ n1_))
           have n0_ := Aside0.mk (Kd.R_drew HO_5.out)
           have n1_ := Aside0.mk (below_drew1 HB.out)
           clear HO_5 HB; have HO_5 := n0_; have HB := n1_; clear n0_ n1_
           refine start_ (n := 8) (S := fun w' => True) (ds := []) #[false, false, false, false, false, false, false, false] (by kernel_rfl) rfl rfl trivial (fun hHeld => ?_); refine with_tabW impl_readExpression.tab26 impl_readExpression.bits26 (fun HT_ HW_ => ?_)
           generalize wr.drew = w65 at HO_5 HB hHeld ⊢
           refine pureS (i := 0) (N := some 92) (any_of HT_.out (by kernel_rfl)) ?_
           refine pureS (i := 2) (N := some 94) (any_of HT_.out (by kernel_rfl)) ?_
           refine pureS (i := 4) (N := some 96) (any_of HT_.out (by kernel_rfl)) ?_
           refine pureS (i := 5) (N := some 97) (any_of HT_.out (by kernel_rfl)) ?_
           refine one_ (i := 1) (N := some 93) #[true, true, true, false, true, true, false, false] rfl rfl (one_of HT_.out (by kernel_rfl)) (by decide) (fun K hK => ?_)
           refine Kd.R_lit_step k84 _ 84 ?hg (N := 93) ?hd (xs := ([(⟨5, 0⟩ : S84)] : List (S84))) (inner := [.int .i64 5, .int .i64 0]) (ok := fun _ => True) (okp := fun _ => True) ?hr ?hp (fun _ hk => hk) trivial (Below.refl _ _) (Nat.le_refl _) (by simp) ?_; (case hd => rfl); (case hg => rfl); (case hr => first | (go_simp; done) | (go_simp; rfl)); (case hp => exact (Reps.c2 (show Kd.M k84 _ _ _ (⟨5, 0⟩ : S84) [.int .i64 5, .int .i64 0] from (k84_mkM _ _ _ (⟨5, 0⟩ : S84) )) (Reps.none _ _)))
           intro v880 w66 ho67 hb hg_ hnew_
           clear hg_ hnew_
           (first | rw [← Ny879.out] at ho67 | (simp only [Int.reduceToNat] at ho67; rw [← Ny879.out] at ho67))
           have n0_ := Aside0.mk (Kd.R_elder' (rP HO_5.out) (Kd.R_base ho67) hb)
           have n1_ := Aside0.mk (Kd.R_lower (Kd.R_new' ho67 (Kd.R_lt (rP HO_5.out))) (below_size (bW)))
           have n2_ := Aside0.mk (below_step (bW) hb)
           clear HO_5 HB; have HO_5 := n0_; have HO881 := n1_; have HB := n2_; clear n0_ n1_ n2_ hb ho67
           obtain ⟨Ao69, co69, eo69⟩ := Kd.R_slice HO_5.out
           (first | subst eo69 | (injection eo69 with f1_ f2_ f3_; have f4_ := f1_.symm; have f5_ := f3_.symm; clear f1_ f2_ f3_; subst f4_; subst f5_))
           refine hK.out _ _ trivial (fun hHeld => ?_)
           clear hK K
           refine norm_ (a' := ?_) ?_ ?_
           rotate_left
           ·show Act.put _ (some 93) _ = _
            simp only [Act.put, List.setIfInBounds_toArray, List.set_cons_zero, List.set_cons_succ, i64_w, i32_w]
            rfl
           refine one_ (i := 3) (N := some 95) #[true, true, true, true, true, true, false, false] rfl rfl (one_of HT_.out (by kernel_rfl)) (by decide) (fun K hK => ?_)
           refine Kd.R_append_rows_step k84 (w0 := w) w.heap.size (by rfl) (.tmp 93) (.tmp 94) 39 84 (.agg #[(.int .i64 0), (.int .i64 0)]) 16 rfl Tryd.underlying39 info84 rfl (by decide) (by omega) v880 y879 x5_2 _ _ _ (fun k_ => some k_ ≠ (.slice Ao69 x5_2.length co69 : Value).ownBlock) (fun _ => False) rfl rfl ?aO ?aR (fun _ _ h => h) (fun _ h => h.elim) ?aF ?aB ?aS ?aL ?_
           (case aR => exact cP ((Kd.R_reads' HO_5.out).2.2))
           (case aB => exact (bW))
           (case aF => exact (fun k_ hk => Kd.fresh' (Kd.R_lt (rP HO_5.out)) k_ hk))
           (case aO => exact (by (with_reducible repeat (first | apply Kd.R_alloc | apply Kd.R_drewN | apply Kd.R_drew)); exact Kd.R_mono HO881.out (fun _ hk => hk.2)))
           (case aS => exact (below_size (bW)))
           (case aL => have := LMc63.out; omega)
           intro v883 w68 ho hb hg hat
           rw [← Ny882.out] at ho
           have n0_ := Aside0.mk (Kd.R_after (ok := (fun _ => True)) (rP HO_5.out) hg hat)
           have n1_ := Aside0.mk (hb)
           have n2_ := Aside0.mk (ho)
           clear HO_5 HB HO881; have HO_5 := n0_; have HB := n1_; have HO884 := n2_; clear n0_ n1_ n2_ ho hb hg hat
           refine hK.out _ _ trivial (fun hHeld => ?_)
           clear hK K
           refine norm_ (a' := ?_) ?_ ?_
           rotate_left
           ·show Act.put _ (some 95) _ = _
            simp only [Act.put, List.setIfInBounds_toArray, List.set_cons_zero, List.set_cons_succ, i64_w, i32_w]
            rfl
           refine pureS (i := 6) (N := some 5) (any_of HT_.out (by kernel_rfl)) ?_
           refine pureS (i := 7) (N := some 6) (any_of HT_.out (by kernel_rfl)) ?_
           refine done_ (done_of HT_.out (by kernel_rfl)) ?_
           try go_wp2
           go_roundg k2
           case measure => have := HJ5.out; have := HK2.out; omega
           case rel => exact ⟨(y882), (x6_2.extract 1 x6_2.size), (eW), H', ⟨by have := HJ5.out; have := HK2.out; omega⟩, ⟨by (with_reducible repeat (first | apply Kd.R_alloc | apply Kd.R_drewN | apply Kd.R_drew)); exact Kd.R_mono HO884.out (fun _ hk => trivial)⟩, ⟨bW⟩⟩
          ·rw [if_neg c64] at H
           exact absurd H (by simp)
         ·rw [if_neg c63] at H
          exact absurd H (by simp)
        ·replace c62 := Bool.eq_false_iff.mpr c62
         subst c62
         have H1 : (some (x5_2, x6_2, true)) = some (r1, r2, r3) := by rw [if_neg (show ¬ (false = true) by decide)] at H; exact H
         clear H
         have H := H1
         clear H1
         simp only [Option.some.injEq, Prod.mk.injEq] at H
         obtain ⟨rfl, rfl, rfl⟩ := H
         go_wp2_with (first | ((with_reducible refine gate_callee (f := 136) rfl ?_); refine goesS (some 91) Tryd.func136 #[.string x6_2, .string ⟨#[42]⟩] ?_; (with_reducible refine (strings_HasPrefix.calls x6_2 (⟨#[42]⟩ : ByteArray) false _ A61.out).mono ?_); rintro e w' ⟨rfl, ⟨nd, rfl⟩⟩; refine ⟨_, rfl, ?_⟩))
         go_ret3
         exact ⟨_, eW, (rP HO_5.out), bW⟩
   ·rw [if_neg c4] at H
    exact absurd H (by simp)
  ·rw [if_neg c3] at H
   exact absurd H (by simp)
end Go.Proofs.YthbaocejgjpfoaaDoor.P
end M0
section M1
namespace Go.Proofs.YthbaocejgjpfoaaDoor.P
open Go.RowKit Go.Proofs.YthbaocejgjpfoaaDoor.Sh Go.Proofs.YthbaocejgjpfoaaDoorW.PrintWords Go.Proofs.YthbaocejgjpfoaaDoorW.PrintLast Go.Proofs.YthbaocejgjpfoaaDoorW.PrintMore
attribute [local go_sem] max2_int min2_int max_two min_two max_three min_three max_four min_four   -- for this text's walks alone
set_option linter.unusedVariables false
set_option linter.unusedSimpArgs false
/-! ### impl_ParseExpression: function 43 -/
def impl_ParseExpression.f (k : Nat) (a0_0 : Int) (l0_1 : List Int) (a1 : ByteArray) : Option ((List (S84)) × Int) := (impl_IsAlphabet.f k a0_0 l0_1).bind fun t886 => (if t886 = true then (if (a1.size : Int) > 96 then (some (([] : List (S84)), 6)) else ((impl_readExpression.f k a1).bind fun bt887 => (if bt887.2.2 = true then (if bt887.2.1.toList = ([] : List UInt8) then ((impl_IsExpression.f k a0_0 l0_1 bt887.1).bind fun t892 => (if t892 = true then (some (bt887.1, 0)) else (some (([] : List (S84)), 6)))) else (some (([] : List (S84)), 6))) else (some (([] : List (S84)), 6))))) else (some (([] : List (S84)), 1)))
set_option maxHeartbeats 8000000 in
set_option maxRecDepth 100000 in
theorem impl_ParseExpression.calls (k : Nat) (a0_0 : Int) (A0_1 : Option Addr) (c0_1 : Nat) (l0_1 : List Int) (a1 : ByteArray) (r1 : List (S84)) (r2 : Int) (w : World) (hr0_1 : Kd.C (Kd.int .i64) w A0_1 l0_1.length l0_1) (hc0_1 : l0_1.length ≤ c0_1) (h : impl_ParseExpression.f k a0_0 l0_1 a1 = some (r1, r2)) (hTab : Tab w) :
  Calls Tryd.prog 43 #[.agg #[.int .i64 a0_0, .slice A0_1 l0_1.length c0_1], .string a1] w fun e w' => ∃ v0_ : Value, e = .returned (.tuple #[v0_, .int .i64 r2]) ∧ Kd.R k84 84 w' w.heap.size (fun _ => True) v0_ r1 ∧ Below w.heap.size w w' := by
 have HTab := Aside0.mk hTab
 clear hTab
 have hu29 := Tryd.underlying29
 have HR0_1 := Aside0.mk hr0_1
 have HC0_1 := Aside0.mk hc0_1
 clear hr0_1 hc0_1
 have HB := Aside0.mk (Below.refl w.heap.size w)
 have H : ((impl_IsAlphabet.f k a0_0 l0_1).bind fun t886 => (if t886 = true then (if (a1.size : Int) > 96 then (some (([] : List (S84)), 6)) else ((impl_readExpression.f k a1).bind fun bt887 => (if bt887.2.2 = true then (if bt887.2.1.toList = ([] : List UInt8) then ((impl_IsExpression.f k a0_0 l0_1 bt887.1).bind fun t892 => (if t892 = true then (some (bt887.1, 0)) else (some (([] : List (S84)), 6)))) else (some (([] : List (S84)), 6))) else (some (([] : List (S84)), 6))))) else (some (([] : List (S84)), 1)))) = some (r1, r2) := h
 clear h
 replace H := Option.bind_eq_some_iff.mp H
 obtain ⟨t886, A30, H⟩ := H
 replace H : (if t886 = true then (if (a1.size : Int) > 96 then (some (([] : List (S84)), 6)) else ((impl_readExpression.f k a1).bind fun bt887 => (if bt887.2.2 = true then (if bt887.2.1.toList = ([] : List UInt8) then ((impl_IsExpression.f k a0_0 l0_1 bt887.1).bind fun t892 => (if t892 = true then (some (bt887.1, 0)) else (some (([] : List (S84)), 6)))) else (some (([] : List (S84)), 6))) else (some (([] : List (S84)), 6))))) else (some (([] : List (S84)), 1))) = some (r1, r2) := H
 have A3 := Aside0.mk A30
 clear A30
 by_cases c4 : t886 = true
 ·subst c4
  have H1 : (if (a1.size : Int) > 96 then (some (([] : List (S84)), 6)) else ((impl_readExpression.f k a1).bind fun bt887 => (if bt887.2.2 = true then (if bt887.2.1.toList = ([] : List UInt8) then ((impl_IsExpression.f k a0_0 l0_1 bt887.1).bind fun t892 => (if t892 = true then (some (bt887.1, 0)) else (some (([] : List (S84)), 6)))) else (some (([] : List (S84)), 6))) else (some (([] : List (S84)), 6))))) = some (r1, r2) := by rw [if_pos rfl] at H; exact H
  clear H
  have H := H1
  clear H1
  by_cases c5 : (a1.size : Int) > 96
  ·rw [if_pos c5] at H
   have c5b0 : decide (96 < (a1.size : Int)) = true := decide_eq_true c5
   have c5b1 : decide (96 < a1.size) = true := decide_eq_true (by omega)
   clear c5
   simp only [Option.some.injEq, Prod.mk.injEq] at H
   obtain ⟨rfl, rfl⟩ := H
   go_enter Tryd.func43, Tryd.ntmps43
   go_wp2_with (first | ((with_reducible refine gate_dst (N := 2) rfl ?_); refine boxS (N := 2) (cs := #[.int .i64 a0_0, .slice A0_1 l0_1.length c0_1]) (t := 29) ?_; intro gb885 hg w6 hbox hb; have n0_ := Aside0.mk (below_step (bW) hb); have n1_ := Aside0.mk (hbox); have n2_ := geW (w := w) hg; have n3_ := geW (w := w) hg; clear HB; have HB := n0_; have BK885 := n1_; have GW885 := n2_; have GE885 := n3_; clear n0_ n1_ n2_ n3_ hb hbox hg; obtain ⟨hcz7_0, hcz7_1⟩ := cells2 BK885.out; obtain ⟨hfz7_0, hfz7_1⟩ := frz2 BK885.out) | ((with_reducible refine gate_callee (f := 58) rfl ?_); refine goesS (some 10) Tryd.func58 #[.agg #[.int .i64 a0_0, .slice A0_1 l0_1.length c0_1]] ?_; (with_reducible refine (impl_IsAlphabet.calls k a0_0 _ _ l0_1 true _ ?side1 ?side2 A3.out (tabW HTab.out)).mono ?_); (case side1 => exact cP (Kd.C_below HR0_1.out HB.out)); (case side2 => exact HC0_1.out); rintro e w8 ⟨rfl, hb⟩; refine ⟨_, rfl, ?_⟩; have n0_ := Aside0.mk (blkB BK885.out hb); have n1_ := Aside0.mk (below_step (bW) hb); clear BK885 HB; have BK885 := n0_; have HB := n1_; clear n0_ n1_; (try clear hb); (try clear hb2); (try clear hk); (try clear hi)))
   go_ret2
   exact ⟨_, eW, by first | exact Kd.R_nil _ _ _ _ _ | exact Kd.N_nil _ _ _ _ _ | exact Kd.V_nil _ _ _ _ _ | exact Kd.Q_nil _ _ _ _ _ | exact Kd.S_nil _ _ _ _ _, bW⟩
  ·rw [if_neg c5] at H
   have c5b0 : decide (96 < (a1.size : Int)) = false := decide_eq_false c5
   have c5b1 : decide (96 < a1.size) = false := decide_eq_false (by omega)
   clear c5
   replace H := Option.bind_eq_some_iff.mp H
   obtain ⟨⟨t887, t888, t889⟩, A90, H⟩ := H
   replace H : (if t889 = true then (if t888.toList = ([] : List UInt8) then ((impl_IsExpression.f k a0_0 l0_1 t887).bind fun t892 => (if t892 = true then (some (t887, 0)) else (some (([] : List (S84)), 6)))) else (some (([] : List (S84)), 6))) else (some (([] : List (S84)), 6))) = some (r1, r2) := H
   have A9 := Aside0.mk A90
   clear A90
   by_cases c10 : t889 = true
   ·subst c10
    have H1 : (if t888.toList = ([] : List UInt8) then ((impl_IsExpression.f k a0_0 l0_1 t887).bind fun t892 => (if t892 = true then (some (t887, 0)) else (some (([] : List (S84)), 6)))) else (some (([] : List (S84)), 6))) = some (r1, r2) := by rw [if_pos rfl] at H; exact H
    clear H
    have H := H1
    clear H1
    by_cases c11 : t888.toList = ([] : List UInt8)
    ·rw [if_pos c11] at H
     have c11b0 : (t888.toList == ([] : List UInt8)) = true := beq_iff_eq.mpr c11
     have c11b1 : (t888.toList != ([] : List UInt8)) = false := bne_eq_false_iff_eq.mpr c11
     clear c11
     replace H := Option.bind_eq_some_iff.mp H
     obtain ⟨t892, A120, H⟩ := H
     replace H : (if t892 = true then (some (t887, 0)) else (some (([] : List (S84)), 6))) = some (r1, r2) := H
     have A12 := Aside0.mk A120
     clear A120
     by_cases c13 : t892 = true
     ·subst c13
      have H1 : (some (t887, 0)) = some (r1, r2) := by rw [if_pos rfl] at H; exact H
      clear H
      have H := H1
      clear H1
      simp only [Option.some.injEq, Prod.mk.injEq] at H
      obtain ⟨rfl, rfl⟩ := H
      go_enter Tryd.func43, Tryd.ntmps43
      go_wp2_with (first | ((with_reducible refine gate_dst (N := 2) rfl ?_); refine boxS (N := 2) (cs := #[.int .i64 a0_0, .slice A0_1 l0_1.length c0_1]) (t := 29) ?_; intro gb885 hg w14 hbox hb; have n0_ := Aside0.mk (below_step (bW) hb); have n1_ := Aside0.mk (hbox); have n2_ := geW (w := w) hg; have n3_ := geW (w := w) hg; clear HB; have HB := n0_; have BK885 := n1_; have GW885 := n2_; have GE885 := n3_; clear n0_ n1_ n2_ n3_ hb hbox hg; obtain ⟨hcz15_0, hcz15_1⟩ := cells2 BK885.out; obtain ⟨hfz15_0, hfz15_1⟩ := frz2 BK885.out) | ((with_reducible refine gate_callee (f := 58) rfl ?_); refine goesS (some 10) Tryd.func58 #[.agg #[.int .i64 a0_0, .slice A0_1 l0_1.length c0_1]] ?_; (with_reducible refine (impl_IsAlphabet.calls k a0_0 _ _ l0_1 true _ ?side1 ?side2 A3.out (tabW HTab.out)).mono ?_); (case side1 => exact cP (Kd.C_below HR0_1.out HB.out)); (case side2 => exact HC0_1.out); rintro e w16 ⟨rfl, hb⟩; refine ⟨_, rfl, ?_⟩; have n0_ := Aside0.mk (blkB BK885.out hb); have n1_ := Aside0.mk (below_step (bW) hb); clear BK885 HB; have BK885 := n0_; have HB := n1_; clear n0_ n1_; (try clear hb); (try clear hb2); (try clear hk); (try clear hi)) | ((with_reducible refine gate_callee (f := 87) rfl ?_); refine goesS (some 17) Tryd.func87 #[.string a1] ?_; (with_reducible refine (impl_readExpression.calls k a1 t887 t888 true _ A9.out).mono ?_); rintro e w17 ⟨v890, rfl, ho0, hb⟩; refine ⟨_, rfl, ?_⟩; have n0_ := Aside0.mk (Kd.R_lower ho0 (below_size (bW))); have n1_ := Aside0.mk (blkB BK885.out hb); have n2_ := Aside0.mk (below_step (bW) hb); clear BK885 HB; have HO891 := n0_; have BK885 := n1_; have HB := n2_; clear n0_ n1_ n2_; (try clear hb); (try clear hb2); (try clear hk); (try clear hi); (try clear ho0); obtain ⟨hcz18_0, hcz18_1⟩ := cells2 BK885.out; obtain ⟨hfz18_0, hfz18_1⟩ := frz2 BK885.out; obtain ⟨Ao19, co19, eo19⟩ := Kd.R_slice HO891.out; subst eo19) | (go_at_call 51; (with_reducible refine (impl_IsExpression.calls k a0_0 _ _ l0_1 _ _ t887 true _ ?side1 ?side2 ?side3 ?side4 A12.out (tabW HTab.out)).mono ?_); (case side1 => exact cP (Kd.C_below HR0_1.out HB.out)); (case side2 => exact HC0_1.out); (case side3 => exact cP ((Kd.R_reads' HO891.out).2.2)); (case side4 => exact (Kd.R_reads' HO891.out).2.1); rintro e w20 ⟨rfl, hb⟩; have n0_ := Aside0.mk (Kd.R_below (rP HO891.out) hb); have n1_ := Aside0.mk (blkB BK885.out hb); have n2_ := Aside0.mk (below_step (bW) hb); clear HO891 BK885 HB; have HO891 := n0_; have BK885 := n1_; have HB := n2_; clear n0_ n1_ n2_; (try clear hb); (try clear hb2); (try clear hk); (try clear hi)))
      go_ret2
      exact ⟨_, eW, (rP HO891.out), bW⟩
     ·replace c13 := Bool.eq_false_iff.mpr c13
      subst c13
      have H1 : (some (([] : List (S84)), 6)) = some (r1, r2) := by rw [if_neg (show ¬ (false = true) by decide)] at H; exact H
      clear H
      have H := H1
      clear H1
      simp only [Option.some.injEq, Prod.mk.injEq] at H
      obtain ⟨rfl, rfl⟩ := H
      go_enter Tryd.func43, Tryd.ntmps43
      go_wp2_with (first | ((with_reducible refine gate_dst (N := 2) rfl ?_); refine boxS (N := 2) (cs := #[.int .i64 a0_0, .slice A0_1 l0_1.length c0_1]) (t := 29) ?_; intro gb885 hg w21 hbox hb; have n0_ := Aside0.mk (below_step (bW) hb); have n1_ := Aside0.mk (hbox); have n2_ := geW (w := w) hg; have n3_ := geW (w := w) hg; clear HB; have HB := n0_; have BK885 := n1_; have GW885 := n2_; have GE885 := n3_; clear n0_ n1_ n2_ n3_ hb hbox hg; obtain ⟨hcz22_0, hcz22_1⟩ := cells2 BK885.out; obtain ⟨hfz22_0, hfz22_1⟩ := frz2 BK885.out) | ((with_reducible refine gate_callee (f := 58) rfl ?_); refine goesS (some 10) Tryd.func58 #[.agg #[.int .i64 a0_0, .slice A0_1 l0_1.length c0_1]] ?_; (with_reducible refine (impl_IsAlphabet.calls k a0_0 _ _ l0_1 true _ ?side1 ?side2 A3.out (tabW HTab.out)).mono ?_); (case side1 => exact cP (Kd.C_below HR0_1.out HB.out)); (case side2 => exact HC0_1.out); rintro e w23 ⟨rfl, hb⟩; refine ⟨_, rfl, ?_⟩; have n0_ := Aside0.mk (blkB BK885.out hb); have n1_ := Aside0.mk (below_step (bW) hb); clear BK885 HB; have BK885 := n0_; have HB := n1_; clear n0_ n1_; (try clear hb); (try clear hb2); (try clear hk); (try clear hi)) | ((with_reducible refine gate_callee (f := 87) rfl ?_); refine goesS (some 17) Tryd.func87 #[.string a1] ?_; (with_reducible refine (impl_readExpression.calls k a1 t887 t888 true _ A9.out).mono ?_); rintro e w24 ⟨v890, rfl, ho0, hb⟩; refine ⟨_, rfl, ?_⟩; have n0_ := Aside0.mk (Kd.R_lower ho0 (below_size (bW))); have n1_ := Aside0.mk (blkB BK885.out hb); have n2_ := Aside0.mk (below_step (bW) hb); clear BK885 HB; have HO891 := n0_; have BK885 := n1_; have HB := n2_; clear n0_ n1_ n2_; (try clear hb); (try clear hb2); (try clear hk); (try clear hi); (try clear ho0); obtain ⟨hcz25_0, hcz25_1⟩ := cells2 BK885.out; obtain ⟨hfz25_0, hfz25_1⟩ := frz2 BK885.out; obtain ⟨Ao26, co26, eo26⟩ := Kd.R_slice HO891.out; subst eo26) | (go_at_call 51; (with_reducible refine (impl_IsExpression.calls k a0_0 _ _ l0_1 _ _ t887 false _ ?side1 ?side2 ?side3 ?side4 A12.out (tabW HTab.out)).mono ?_); (case side1 => exact cP (Kd.C_below HR0_1.out HB.out)); (case side2 => exact HC0_1.out); (case side3 => exact cP ((Kd.R_reads' HO891.out).2.2)); (case side4 => exact (Kd.R_reads' HO891.out).2.1); rintro e w27 ⟨rfl, hb⟩; have n0_ := Aside0.mk (Kd.R_below (rP HO891.out) hb); have n1_ := Aside0.mk (blkB BK885.out hb); have n2_ := Aside0.mk (below_step (bW) hb); clear HO891 BK885 HB; have HO891 := n0_; have BK885 := n1_; have HB := n2_; clear n0_ n1_ n2_; (try clear hb); (try clear hb2); (try clear hk); (try clear hi)))
      go_ret2
      exact ⟨_, eW, by first | exact Kd.R_nil _ _ _ _ _ | exact Kd.N_nil _ _ _ _ _ | exact Kd.V_nil _ _ _ _ _ | exact Kd.Q_nil _ _ _ _ _ | exact Kd.S_nil _ _ _ _ _, bW⟩
    ·rw [if_neg c11] at H
     have c11b0 : (t888.toList == ([] : List UInt8)) = false := beq_eq_false_iff_ne.mpr c11
     have c11b1 : (t888.toList != ([] : List UInt8)) = true := bne_iff_ne.mpr c11
     simp only [Option.some.injEq, Prod.mk.injEq] at H
     obtain ⟨rfl, rfl⟩ := H
     go_enter Tryd.func43, Tryd.ntmps43
     go_wp2_with (first | ((with_reducible refine gate_dst (N := 2) rfl ?_); refine boxS (N := 2) (cs := #[.int .i64 a0_0, .slice A0_1 l0_1.length c0_1]) (t := 29) ?_; intro gb885 hg w28 hbox hb; have n0_ := Aside0.mk (below_step (bW) hb); have n1_ := Aside0.mk (hbox); have n2_ := geW (w := w) hg; have n3_ := geW (w := w) hg; clear HB; have HB := n0_; have BK885 := n1_; have GW885 := n2_; have GE885 := n3_; clear n0_ n1_ n2_ n3_ hb hbox hg; obtain ⟨hcz29_0, hcz29_1⟩ := cells2 BK885.out; obtain ⟨hfz29_0, hfz29_1⟩ := frz2 BK885.out) | ((with_reducible refine gate_callee (f := 58) rfl ?_); refine goesS (some 10) Tryd.func58 #[.agg #[.int .i64 a0_0, .slice A0_1 l0_1.length c0_1]] ?_; (with_reducible refine (impl_IsAlphabet.calls k a0_0 _ _ l0_1 true _ ?side1 ?side2 A3.out (tabW HTab.out)).mono ?_); (case side1 => exact cP (Kd.C_below HR0_1.out HB.out)); (case side2 => exact HC0_1.out); rintro e w30 ⟨rfl, hb⟩; refine ⟨_, rfl, ?_⟩; have n0_ := Aside0.mk (blkB BK885.out hb); have n1_ := Aside0.mk (below_step (bW) hb); clear BK885 HB; have BK885 := n0_; have HB := n1_; clear n0_ n1_; (try clear hb); (try clear hb2); (try clear hk); (try clear hi)) | ((with_reducible refine gate_callee (f := 87) rfl ?_); refine goesS (some 17) Tryd.func87 #[.string a1] ?_; (with_reducible refine (impl_readExpression.calls k a1 t887 t888 true _ A9.out).mono ?_); rintro e w31 ⟨v890, rfl, ho0, hb⟩; refine ⟨_, rfl, ?_⟩; have n0_ := Aside0.mk (Kd.R_lower ho0 (below_size (bW))); have n1_ := Aside0.mk (blkB BK885.out hb); have n2_ := Aside0.mk (below_step (bW) hb); clear BK885 HB; have HO891 := n0_; have BK885 := n1_; have HB := n2_; clear n0_ n1_ n2_; (try clear hb); (try clear hb2); (try clear hk); (try clear hi); (try clear ho0)))
     go_ret2
     exact ⟨_, eW, by first | exact Kd.R_nil _ _ _ _ _ | exact Kd.N_nil _ _ _ _ _ | exact Kd.V_nil _ _ _ _ _ | exact Kd.Q_nil _ _ _ _ _ | exact Kd.S_nil _ _ _ _ _, bW⟩
   ·replace c10 := Bool.eq_false_iff.mpr c10
    subst c10
    have H1 : (some (([] : List (S84)), 6)) = some (r1, r2) := by rw [if_neg (show ¬ (false = true) by decide)] at H; exact H
    clear H
    have H := H1
    clear H1
    simp only [Option.some.injEq, Prod.mk.injEq] at H
    obtain ⟨rfl, rfl⟩ := H
    go_enter Tryd.func43, Tryd.ntmps43
    go_wp2_with (first | ((with_reducible refine gate_dst (N := 2) rfl ?_); refine boxS (N := 2) (cs := #[.int .i64 a0_0, .slice A0_1 l0_1.length c0_1]) (t := 29) ?_; intro gb885 hg w32 hbox hb; have n0_ := Aside0.mk (below_step (bW) hb); have n1_ := Aside0.mk (hbox); have n2_ := geW (w := w) hg; have n3_ := geW (w := w) hg; clear HB; have HB := n0_; have BK885 := n1_; have GW885 := n2_; have GE885 := n3_; clear n0_ n1_ n2_ n3_ hb hbox hg; obtain ⟨hcz33_0, hcz33_1⟩ := cells2 BK885.out; obtain ⟨hfz33_0, hfz33_1⟩ := frz2 BK885.out) | ((with_reducible refine gate_callee (f := 58) rfl ?_); refine goesS (some 10) Tryd.func58 #[.agg #[.int .i64 a0_0, .slice A0_1 l0_1.length c0_1]] ?_; (with_reducible refine (impl_IsAlphabet.calls k a0_0 _ _ l0_1 true _ ?side1 ?side2 A3.out (tabW HTab.out)).mono ?_); (case side1 => exact cP (Kd.C_below HR0_1.out HB.out)); (case side2 => exact HC0_1.out); rintro e w34 ⟨rfl, hb⟩; refine ⟨_, rfl, ?_⟩; have n0_ := Aside0.mk (blkB BK885.out hb); have n1_ := Aside0.mk (below_step (bW) hb); clear BK885 HB; have BK885 := n0_; have HB := n1_; clear n0_ n1_; (try clear hb); (try clear hb2); (try clear hk); (try clear hi)) | ((with_reducible refine gate_callee (f := 87) rfl ?_); refine goesS (some 17) Tryd.func87 #[.string a1] ?_; (with_reducible refine (impl_readExpression.calls k a1 t887 t888 false _ A9.out).mono ?_); rintro e w35 ⟨v890, rfl, ho0, hb⟩; refine ⟨_, rfl, ?_⟩; have n0_ := Aside0.mk (Kd.R_lower ho0 (below_size (bW))); have n1_ := Aside0.mk (blkB BK885.out hb); have n2_ := Aside0.mk (below_step (bW) hb); clear BK885 HB; have HO891 := n0_; have BK885 := n1_; have HB := n2_; clear n0_ n1_ n2_; (try clear hb); (try clear hb2); (try clear hk); (try clear hi); (try clear ho0)))
    go_ret2
    exact ⟨_, eW, by first | exact Kd.R_nil _ _ _ _ _ | exact Kd.N_nil _ _ _ _ _ | exact Kd.V_nil _ _ _ _ _ | exact Kd.Q_nil _ _ _ _ _ | exact Kd.S_nil _ _ _ _ _, bW⟩
 ·replace c4 := Bool.eq_false_iff.mpr c4
  subst c4
  have H1 : (some (([] : List (S84)), 1)) = some (r1, r2) := by rw [if_neg (show ¬ (false = true) by decide)] at H; exact H
  clear H
  have H := H1
  clear H1
  simp only [Option.some.injEq, Prod.mk.injEq] at H
  obtain ⟨rfl, rfl⟩ := H
  go_enter Tryd.func43, Tryd.ntmps43
  go_wp2_with (first | ((with_reducible refine gate_dst (N := 2) rfl ?_); refine boxS (N := 2) (cs := #[.int .i64 a0_0, .slice A0_1 l0_1.length c0_1]) (t := 29) ?_; intro gb885 hg w36 hbox hb; have n0_ := Aside0.mk (below_step (bW) hb); have n1_ := Aside0.mk (hbox); have n2_ := geW (w := w) hg; have n3_ := geW (w := w) hg; clear HB; have HB := n0_; have BK885 := n1_; have GW885 := n2_; have GE885 := n3_; clear n0_ n1_ n2_ n3_ hb hbox hg; obtain ⟨hcz37_0, hcz37_1⟩ := cells2 BK885.out; obtain ⟨hfz37_0, hfz37_1⟩ := frz2 BK885.out) | ((with_reducible refine gate_callee (f := 58) rfl ?_); refine goesS (some 10) Tryd.func58 #[.agg #[.int .i64 a0_0, .slice A0_1 l0_1.length c0_1]] ?_; (with_reducible refine (impl_IsAlphabet.calls k a0_0 _ _ l0_1 false _ ?side1 ?side2 A3.out (tabW HTab.out)).mono ?_); (case side1 => exact cP (Kd.C_below HR0_1.out HB.out)); (case side2 => exact HC0_1.out); rintro e w38 ⟨rfl, hb⟩; refine ⟨_, rfl, ?_⟩; have n0_ := Aside0.mk (blkB BK885.out hb); have n1_ := Aside0.mk (below_step (bW) hb); clear BK885 HB; have BK885 := n0_; have HB := n1_; clear n0_ n1_; (try clear hb); (try clear hb2); (try clear hk); (try clear hi)))
  go_ret2
  exact ⟨_, eW, by first | exact Kd.R_nil _ _ _ _ _ | exact Kd.N_nil _ _ _ _ _ | exact Kd.V_nil _ _ _ _ _ | exact Kd.Q_nil _ _ _ _ _ | exact Kd.S_nil _ _ _ _ _, bW⟩
/-! ### laws_markTermS: function 44 -/
/-! ### laws_heldTermS: function 45 -/
end Go.Proofs.YthbaocejgjpfoaaDoor.P
end M1
